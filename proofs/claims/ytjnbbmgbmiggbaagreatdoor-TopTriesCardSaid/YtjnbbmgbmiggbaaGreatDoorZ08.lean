/- Lemmas for TopTries' card: package shard, second part; lists of records; package tour. -/
import Derived.Test.YtjnbbmgbmiggbaaGreatDoorZ07
set_option linter.unusedSimpArgs false
set_option linter.unusedVariables false
set_option maxRecDepth 20000
set_option maxHeartbeats 4000000
namespace Go.Proofs.YtjnbbmgbmiggbaaGreatDoor
open Go Go.RowKit Go.Maps Go.Proofs.Tryz
section
variable {p wd:Nat} {Z:Sh}
theorem MC {m:Nat} (hZ:pG Z m) (hm:m<100000) (hwd:wd≤40):Does prog [dF p wd Z,bP] 62 #[ptr p] (qX (Z.pop wd).2) [dF p wd (Z.pop wd).1,bP]:=Does.ax fun S w0 w h=>by
 obtain⟨B,hB⟩:∃ B,B=w.heap.size:=⟨_,rfl⟩
 have s1:=h.box [Ju 0,J 0] 156;rw[←hB]at s1;have H:=zd s1;have HB:=zd hB;have HZ:=zd hZ;clear h s1 hB hZ
 go_enter func62,ntmps62
 go_wp2_with fail
 rw[←HB.out];refine((vO HZ.out hm).call (Bs:=[box B [Ju 0,J 0] 156]) H.out).mono ?_
 rintro e w1 ⟨he,s2⟩
 cases hq:Z.min with
 |none=>
  have hr:Z.pop wd=(Z,none):=by unfold Sh.pop;rw[hq]
  have hv:qX Z.min=.tuple #[.agg #[Ju 0,J 0],.bool false]:=by rw[hq];rfl
  rw[hv]at he;subst he;have s2':Scope S w0 w1 ([dF p wd Z,bP]++([box B [Ju 0,J 0] 156]++[])):=s2;have rb:=s2'.row (k:=B) 2 rfl;obtain⟨b0,b1⟩:=rb.c2;have f0:=rb.free 0;have f1:=rb.free 1;have bl:=rb.lt;have q1:=Scope.au s2' 0 (Ju 0);have q2:=Scope.au q1 1 (J 0);have q3:=q2.box [Ju 0,J 0] 156;have Hr:=zd hr;have Q3:=zd q3;clear hr hv hq s2 s2' rb q1 q2 q3 H
  go_wp2
  have q3:=Q3.out;obtain⟨V,hV⟩:∃ V,V=((w1.setCell ⟨B,0,none⟩ (Ju 0)).setCell ⟨B,1,none⟩ (J 0)).alloc (.cells #[Ju 0,J 0] 156):=⟨_,rfl⟩
  rw[show(((w1.setCell ⟨B,0,none⟩ (Ju 0)).setCell ⟨B,1,none⟩ (J 0)).alloc (.cells [Ju 0,J 0].toArray 156))=V from hV.symm]at q3;rw[←hV];have z0:At V B 0 (Ju 0):=(q3.row (k:=B) 2 rfl).cell rfl;have z1:At V B 1 (J 0):=(q3.row (k:=B) 2 rfl).cell rfl;refine bodyPost_ret (v:=.tuple #[.agg #[Ju 0,J 0],.bool false]) (by simp[results,results62,go_sem,z0,z1]) rfl (Ends.mk' (by rw[Hr.out];rfl) [box B [Ju 0,J 0] 156,box (((w1.setCell ⟨B,0,none⟩ (Ju 0)).setCell ⟨B,1,none⟩ (J 0)).heap.size) [Ju 0,J 0] 156] ?_);rw[Hr.out]
  exact q3
 |some x=>
  obtain⟨xk,xi⟩:=x;have okx:okI ⟨xk,xi⟩:=uK HZ.out hq;have hr:Z.pop wd=(((Z.drop wd xi).move wd xk).1,some ⟨xk,xi⟩):=by unfold Sh.pop;rw[hq]
  have hv:qX Z.min=.tuple #[.agg #[Ju xk,J xi],.bool true]:=by rw[hq];rfl
  rw[hv]at he;subst he;obtain⟨X,hX⟩:∃ X,X=w1.heap.size:=⟨_,rfl⟩
  have s3:=s2.box [Ju xk,J xi] 156;rw[←hX]at s3;have Hr:=zd hr;have S3:=zd s3;have HX:=zd hX;clear hr hv hq s2 s3 hX H
  go_wp2_with fail
  rw[←HX.out];have s3:=S3.out;refine(Does.nth (Jd okx.1 HZ.out hm hwd) 0 rfl s3).mono ?_
  rintro e w2 ⟨rfl,s4⟩
  have x0:=(s4.row (k:=X) 3 rfl).cell (j:=0) rfl;have x1:=(s4.row (k:=X) 3 rfl).cell (j:=1) rfl;have S4:=zd s4;clear s3 s4 S3
  go_wp2_with fail
  refine((Gx xk okx.2 (HZ.out.drop wd xi) hm hwd).call (Bs:=[box B [Ju 0,J 0] 156,box X [Ju xk,J xi] 156]) S4.out).mono ?_
  rintro e w3 ⟨rfl,s5⟩
  have s5':Scope S w0 w3 ([dF p wd ((Z.drop wd xi).move wd xk).1,bP]++([box B [Ju 0,J 0] 156]++[box X [Ju xk,J xi] 156])):=s5;have rb:=s5'.row (k:=B) 2 rfl;obtain⟨b0,b1⟩:=rb.c2;have f0:=rb.free 0;have f1:=rb.free 1;have y0:=(s5'.row (k:=X) 3 rfl).cell (j:=0) rfl;have y1:=(s5'.row (k:=X) 3 rfl).cell (j:=1) rfl;have q1:=Scope.au s5' 0 (Ju xk);have q2:=Scope.au q1 1 (J xi);have Q2:=zd q2;clear s5 s5' rb q1 q2 S4 x0 x1
  go_wp2
  have q3:=Q2.out;obtain⟨V,hV⟩:∃ V,V=(w3.setCell ⟨B,0,none⟩ (Ju xk)).setCell ⟨B,1,none⟩ (J xi):=⟨_,rfl⟩
  rw[←hV]at q3 ⊢
  have z0:At V B 0 (Ju xk):=(q3.row (k:=B) 2 rfl).cell rfl;have z1:At V B 1 (J xi):=(q3.row (k:=B) 2 rfl).cell rfl;refine bodyPost_ret (v:=.tuple #[.agg #[Ju xk,J xi],.bool true]) (by simp[results,results62,go_sem,z0,z1]) rfl (Ends.mk' (by rw[Hr.out];rfl) [box B [Ju xk,J xi] 156,box X [Ju xk,J xi] 156] ?_);rw[Hr.out]
  exact q3
end
theorem wK (wd:Nat) (Z:Sh) (x:It):(eY wd Z.w.base x.key<0∧Z.push wd x=(Z,false))∨(0≤eY wd Z.w.base x.key∧((Z.has x.id=true∧Z.push wd x=(Z,false))∨
  (Z.has x.id=false∧((2<eY wd Z.w.base x.key∧Z.push wd x=(⟨Z.w,(hpush Z.far x).1⟩,(hpush Z.far x).2))∨(eY wd Z.w.base x.key≤2∧Z.push wd x=(⟨(Z.w.push wd x).1,Z.far⟩,(Z.w.push wd x).2)))))):=by
 unfold Sh.push
 by_cases h1:eY wd Z.w.base x.key<0
 ·exact .inl ⟨h1,if_pos (.inl h1)⟩
 ·refine .inr ⟨by omega,?_⟩
  cases h2:Z.has x.id
  ·refine .inr ⟨rfl,?_⟩
   have h3:¬ (eY wd Z.w.base x.key<0∨false=true):=fun q=>q.elim h1 (fun q=>by cases q)
   by_cases h4:2<eY wd Z.w.base x.key
   ·exact .inl ⟨h4,by rw[if_neg h3,if_pos h4]⟩
   ·exact .inr ⟨by omega,by rw[if_neg h3,if_neg h4]⟩
  ·exact .inl ⟨rfl,if_pos (.inr rfl)⟩
section
variable {p wd:Nat} {Z:Sh}
theorem JP (x:It) (hx:okI x) {m:Nat} (hZ:pG Z m) (hm:m<100000) (hwd:wd≤40):Does prog [dF p wd Z] 59 #[ptr p,x.val] (.bool (Z.push wd x).2) [dF p wd (Z.push wd x).1]:=Does.ax fun S w0 w h=>by
 obtain⟨xk,xi⟩:=x;obtain⟨B,hB⟩:∃ B,B=w.heap.size:=⟨_,rfl⟩
 obtain⟨W,hW⟩:∃ W,W=w.alloc (.cells #[Ju xk,J xi] 156):=⟨_,rfl⟩
 have s1:=h.box [Ju xk,J xi] 156;rw[←hB,show w.alloc (.cells [Ju xk,J xi].toArray 156)=W from hW.symm]at s1;have lv:=x9 Z.w.base xk (wd:Int) hZ.w.ok.base hx.2;rw[DX hwd]at lv;have cs:=wK wd Z ⟨xk,xi⟩;have hlr: -1≤eY wd Z.w.base xk∧eY wd Z.w.base xk≤3:=by unfold eY;split<;>(try split)<;>(try split)<;>(try split)<;>omega
 simp only at cs
 generalize eY wd Z.w.base xk=lev at *;have H:=zd s1;have HB:=zd hB;have HW:=zd hW;have HZ:=zd hZ;have Lv:=zd lv;have Cs:=zd cs;clear h s1 hB hW hZ lv cs;unfold It.val
 go_enter func59,ntmps59
 go_wp2_with fail
 rw[←HB.out,show w.alloc (.cells #[Ju xk,J xi] 156)=W from HW.out.symm];refine aP (by kernel_rfl) ?_;have s2:=H.out.drew;have cellsOf:∀ {w':World} {Y:Sh},Scope S w0 w' (dF p wd Y::[box B [Ju xk,J xi] 156])→At w' B 0 (Ju xk)∧At w' B 1 (J xi)∧At w' p 2 (J wd):=fun {w' Y} s=>by
  obtain⟨pw,ph,s3⟩:=s.kL
  exact⟨(s3.row (k:=B) 3 rfl).cell rfl,(s3.row (k:=B) 3 rfl).cell rfl,(s3.row (k:=p) 0 rfl).cell rfl⟩
 have h0:At W.drew B 0 (Ju xk)∧At W.drew B 1 (J xi)∧At W.drew p 2 (J wd):=cellsOf s2;have S2:=zd s2;clear s2;refine aY [0,2,4] ?_
 repeat (refine ay _ rfl (by kernel_rfl) (fun _ _ _ h=>h) (fun w'=>by(try simp only[ag,ah,aj]);go_simp;try with_reducible rfl) ?_;try simp only[Act.put,ag,ah,aj,aF,aB,aC])
 refine aH ?_;refine bu (S:=fun w'=>At w' B 0 (Ju xk)∧At w' B 1 (J xi)∧At w' p 2 (J wd)) (U:=[1,3,5,6,7]) _ _ _ _ ?_;refine dB [3,5,6,7] ?_
 repeat (refine aN _ rfl (by kernel_rfl) (fun _ _ _ h=>h) h0 (fun w' hS=>by(try dsimp only at hS);(try simp only[ag,ah,aj]);go_simp;try with_reducible rfl) ?_;try simp only[Act.put,ag,ah,aj,aF,aB,aC])
 refine bM ?_;refine aK 1 (by kernel_rfl) rfl (by rfl) fun K hK=>?_
 go_simp;refine(IU.at0 S2.out).mono ?_
 rintro e w2 ⟨rfl,s3⟩
 have h1:=cellsOf s3;refine hK _ _ ⟨fun _=>h1,?_⟩;have S3:=zd s3;clear hK K h0 s3 S2
 try simp only[Act.put,ag,ah,aj,aF,aB,aC]
 refine aX _ _ _ _ (fun j hj=>?_) ?_
 ·simp at hj;rcases hj with rfl|rfl|rfl|rfl|rfl<;>rfl
 refine af 8 (by kernel_rfl) rfl (by rfl) fun K hK=>?_
 go_simp;refine(Lv.out _).mono ?_
 rintro e w3 ⟨rfl,rfl⟩
 refine hK _ _ ?_;clear hK K h1
 try simp only[Act.put,ag,ah,aj,aF,aB,aC]
 refine af 9 (by kernel_rfl) rfl (by rfl) fun K hK=>?_
 go_simp;refine hK _ _ ?_;clear hK K
 try simp only[Act.put,ag,ah,aj,aF,aB,aC]
 refine wpAny_done (by kernel_rfl) ?_ _;have xc:=(cellsOf S3.out).2.1;clear cellsOf
 rcases Cs.out with⟨l1,hr⟩|⟨l1,hr⟩
 ·have Hr:=zd hr
  clear hr Cs
  go_wp2
  go_ret
  refine Ends.mk' (by rw[Hr.out];rfl) [box B [Ju xk,J xi] 156] ?_;rw[Hr.out]
  exact S3.out
 ·have l1':¬ lev<0:=by omega
  have Hr:=zd hr;clear hr Cs l1
  go_wp2_with fail
  refine((NR xi hx.1).at0 S3.out).mono ?_
  rintro e w3 ⟨he,s4⟩
  have S4:=zd s4;clear s4 xc S3
  rcases Hr.out with⟨hh,hr⟩|⟨hh,hr⟩
  ·rw[hh]at he
   subst he;have Hr2:=zd hr;clear hr hh Hr
   go_wp2
   go_ret
   refine Ends.mk' (by rw[Hr2.out];rfl) [box B [Ju xk,J xi] 156] ?_;rw[Hr2.out]
   exact S4.out
  ·rw[hh]at he
   subst he;obtain⟨pw,ph,s5⟩:=Scope.kL S4.out
   rcases hr with⟨l2,hr⟩|⟨l2,hr⟩
   ·have l2':lev>2:=l2
    have Hr2:=zd hr;have S5:=zd s5;clear hr hh Hr s5 S4
    go_wp2_with fail
    refine aP (by kernel_rfl) ?_;have s6:=S5.out.drew;have h0:At w3.drew B 0 (Ju xk)∧At w3.drew B 1 (J xi)∧At w3.drew p 1 (ptr ph):=⟨(s6.row (k:=B) 3 rfl).cell rfl,(s6.row (k:=B) 3 rfl).cell rfl,(s6.row (k:=p) 0 rfl).cell rfl⟩
    have S6:=zd s6;clear s6;refine aY [0] ?_
    repeat (refine ay _ rfl (by kernel_rfl) (fun _ _ _ h=>h) (fun w'=>by(try simp only[ag,ah,aj]);go_simp;try with_reducible rfl) ?_;try simp only[Act.put,ag,ah,aj,aF,aB,aC])
    refine aH ?_;refine bu (S:=fun w'=>At w' B 0 (Ju xk)∧At w' B 1 (J xi)∧At w' p 1 (ptr ph)) (U:=[1,2,3,4]) _ _ _ _ ?_;refine dB [1,2,3,4] ?_
    repeat (refine aN _ rfl (by kernel_rfl) (fun _ _ _ h=>h) h0 (fun w' hS=>by(try dsimp only at hS);(try simp only[ag,ah,aj]);go_simp;try with_reducible rfl) ?_;try simp only[Act.put,ag,ah,aj,aF,aB,aC])
    refine bM ?_;refine aX _ _ _ _ (fun j hj=>?_) ?_
    ·simp at hj;rcases hj with rfl|rfl|rfl|rfl<;>rfl
    refine af 5 (by kernel_rfl) rfl (by rfl) fun K hK=>?_
    go_simp;refine(Does.nth (Ku (l:=Z.far) ⟨xk,xi⟩ hx (Nat.lt_of_le_of_lt HZ.out.le hm) HZ.out.far) 2 rfl S6.out).mono ?_
    rintro e w4 ⟨rfl,s7⟩
    refine hK _ _ ?_;have S7:=zd s7;clear hK K h0 s7 S6
    try simp only[Act.put,ag,ah,aj,aF,aB,aC]
    refine af 6 (by kernel_rfl) rfl (by rfl) fun K hK=>?_
    go_simp;refine hK _ _ ?_;clear hK K
    try simp only[Act.put,ag,ah,aj,aF,aB,aC]
    refine wpAny_done (by kernel_rfl) ?_ _
    go_wp2
    go_ret
    refine Ends.mk' (by rw[Hr2.out];rfl) [box B [Ju xk,J xi] 156] ?_;rw[Hr2.out]
    exact Scope.gI (Z:=⟨Z.w,(hpush Z.far ⟨xk,xi⟩).1⟩) ((S7.out.front 2 rfl).front 2 rfl)
   ·have l2':¬ lev>2:=by omega
    have Hr2:=zd hr;have S5:=zd s5;clear hr hh Hr s5 S4 l2
    go_wp2_with fail
    refine aP (by kernel_rfl) ?_;have s6:=S5.out.drew;have h0:At w3.drew B 0 (Ju xk)∧At w3.drew B 1 (J xi)∧At w3.drew p 0 (ptr pw):=⟨(s6.row (k:=B) 3 rfl).cell rfl,(s6.row (k:=B) 3 rfl).cell rfl,(s6.row (k:=p) 0 rfl).cell rfl⟩
    have S6:=zd s6;clear s6;refine aY [0] ?_
    repeat (refine ay _ rfl (by kernel_rfl) (fun _ _ _ h=>h) (fun w'=>by(try simp only[ag,ah,aj]);go_simp;try with_reducible rfl) ?_;try simp only[Act.put,ag,ah,aj,aF,aB,aC])
    refine aH ?_;refine bu (S:=fun w'=>At w' B 0 (Ju xk)∧At w' B 1 (J xi)∧At w' p 0 (ptr pw)) (U:=[1,2,3,4]) _ _ _ _ ?_;refine dB [1,2,3,4] ?_
    repeat (refine aN _ rfl (by kernel_rfl) (fun _ _ _ h=>h) h0 (fun w' hS=>by(try dsimp only at hS);(try simp only[ag,ah,aj]);go_simp;try with_reducible rfl) ?_;try simp only[Act.put,ag,ah,aj,aF,aB,aC])
    refine bM ?_;refine aX _ _ _ _ (fun j hj=>?_) ?_
    ·simp at hj;rcases hj with rfl|rfl|rfl|rfl<;>rfl
    refine af 5 (by kernel_rfl) rfl (by rfl) fun K hK=>?_
    go_simp;refine(Does.nth (zn (W:=Z.w) ⟨xk,xi⟩ hx HZ.out.w.ok hwd (fun n=>Nat.lt_of_le_of_lt (HZ.out.ww.len n) hm)) 1 rfl S6.out).mono ?_
    rintro e w4 ⟨rfl,s7⟩
    refine hK _ _ ?_;have S7:=zd s7;clear hK K h0 s7 S6
    try simp only[Act.put,ag,ah,aj,aF,aB,aC]
    refine af 6 (by kernel_rfl) rfl (by rfl) fun K hK=>?_
    go_simp;refine hK _ _ ?_;clear hK K
    try simp only[Act.put,ag,ah,aj,aF,aB,aC]
    refine wpAny_done (by kernel_rfl) ?_ _
    go_wp2
    go_ret
    refine Ends.mk' (by rw[Hr2.out];rfl) [box B [Ju xk,J xi] 156] ?_;rw[Hr2.out]
    exact Scope.gI (Z:=⟨(Z.w.push wd ⟨xk,xi⟩).1,Z.far⟩) (S7.out.front 1 rfl)
end
def setAll:List Value→Nat→List Value→List Value
 |l,_,[]=>l
 |l,o,v::vs=>setAll (l.set o v) (o+1) vs
theorem J8 (vs:List Value):∀ (l:List Value) (o j:Nat),(setAll l o vs)[j]? =if o≤j∧j<o+vs.length∧j<l.length then vs[j - o]? else l[j]?:=by
 induction vs with
 |nil=>intro l o j;rw[if_neg (by simp;omega)];rfl
 |cons v vs ih=>
  intro l o j
  unfold setAll;rw[ih,List.length_set,List.length_cons]
  by_cases h1:o+1≤j∧j<o+1+vs.length∧j<l.length
  ·rw[if_pos h1,if_pos (by omega),show j - o=(j - (o+1))+1 by omega,List.getElem?_cons_succ]
  ·rw[if_neg h1,List.getElem?_set]
   by_cases h2:o=j
   ·subst h2
    rw[if_pos rfl]
    by_cases h3:o<l.length
    ·rw[if_pos h3,if_pos (by omega)];simp
    ·rw[if_neg h3,if_neg (by omega),List.getElem?_eq_none (by omega)]
   ·rw[if_neg h2,if_neg (by omega)]
section
variable {α:Type} {n:Nat} {c:α→List Value} (hc:∀ x,(c x).length=n)
def recs (c:α→List Value) (L:List α):List Value:=L.flatMap c
theorem Af (x:α) (L:List α):recs c (x::L)=c x++recs c L:=by simp[recs]
theorem l7 (L M:List α):recs c (L++M)=recs c L++recs c M:=by simp[recs]
include hc
theorem kP (L:List α):(recs c L).length=L.length*n:=by
 induction L with
 |nil=>simp[recs]
 |cons x L ih=>rw[Af,List.length_append,ih,hc,List.length_cons,Nat.succ_mul,Nat.add_comm]
theorem eH {L:List α} {k:Nat} {x:α} (h:L[k]? =some x) {j:Nat} (hj:j<n) (rest:List Value):(recs c L++rest)[k*n+j]? =(c x)[j]?:=by
 induction L generalizing k with
 |nil=>simp at h
 |cons y L ih=>
  rw[Af,List.append_assoc]
  cases k with
  |zero=>
   simp at h;subst h
   rw[List.getElem?_append_left (by rw[hc];omega)];simp
  |succ k=>
   rw[List.getElem?_append_right (by rw[hc,Nat.succ_mul];omega),hc,show(k+1)*n+j - n=k*n+j by rw[Nat.succ_mul];omega]
   exact ih (by simpa using h)
theorem Px (L:List α) (k:Nat) (y:α) (hk:k<L.length) (rest:List Value):setAll (recs c L++rest) (k*n) (c y)=recs c (L.set k y)++rest:=by
 have hl:=kP hc L;have hl2:=kP hc (L.set k y);rw[List.length_set]at hl2;have hkn:k*n+n≤L.length*n:=by rw[←Nat.succ_mul];exact Nat.mul_le_mul_right n hk
 apply List.ext_getElem?
 intro j
 rw[J8,hc,List.length_append,hl]
 by_cases h1:k*n≤j∧j<k*n+n∧j<L.length*n+rest.length
 ·rw[if_pos h1]
  have:=eH hc (L:=L.set k y) (k:=k) (x:=y) (by simp[hk]) (j:=j - k*n) (by omega) rest
  rw[show k*n+(j - k*n)=j by omega]at this
  exact this.symm
 ·rw[if_neg h1]
  by_cases h2:j<L.length*n
  ·
   have hn:0<n:=by
    rcases Nat.eq_zero_or_pos n with rfl|h
    ·simp at h2
    ·exact h
   obtain⟨q,r,hr,rfl⟩:∃ q r,r<n∧j=q*n+r:=⟨j / n,j % n,Nat.mod_lt _ hn,by rw[Nat.mul_comm,Nat.div_add_mod]⟩
   have hq:q<L.length:=by
    rcases Nat.lt_or_ge q L.length with h|h
    ·exact h
    ·have:=Nat.mul_le_mul_right n h;omega
   have hqk:q≠k:=fun e=>by subst e;omega
   obtain⟨x,hx⟩:∃ x,L[q]? =some x:=⟨_,List.getElem?_eq_getElem hq⟩
   rw[eH hc hx hr,eH hc (x:=x) (by rw[List.getElem?_set_ne (fun e=>hqk e.symm)];exact hx) hr]
  ·rw[List.getElem?_append_right (by omega),List.getElem?_append_right (by omega),hl,hl2]
theorem iJ {L:List α} {k:Nat} {x:α} (h:L[k]? =some x) {j:Nat} (hj:j<n):(recs c L)[k*n+j]? =(c x)[j]?:=by
 have:=eH hc h hj []
 rwa [List.append_nil]at this
theorem vN (L:List α) (k:Nat) (y:α) (hk:k<L.length):setAll (recs c L) (k*n) (c y)=recs c (L.set k y):=by
 have:=Px hc L k y hk []
 rwa [List.append_nil,List.append_nil]at this
omit hc in
theorem P9 (h1:∀ x,∀ u∈c x,u.oneCell'=true) (L:List α):∀ u∈recs c L,u.oneCell'=true:=by
 intro u hu
 unfold recs at hu;obtain⟨e,_,he⟩:=List.mem_flatMap.1 hu
 exact h1 e u he
end
theorem Scope.Ux {S:List Nat} {w0:World} {As Bs:List HA} {k:Nat} {t:TypeId} (us:List Value):∀ {w:World} {vs:List Value} (_:Scope S w0 w (As++([Go.Proofs.YtjnbbmgbmiggbaaGreatDoor.box k vs t]++Bs))) (o:Nat),
  Scope S w0 ((us.foldl (fun x u=>(x.1.setCell ⟨k,x.2,none⟩ u,x.2+1)) (w,o)).1) (As++([Go.Proofs.YtjnbbmgbmiggbaaGreatDoor.box k (setAll vs o us) t]++Bs)):=by
 induction us with
 |nil=>intro w vs h o;exact h
 |cons u us ih=>intro w vs h o;exact ih (h.au o u) (o+1)
def iq (f:It×Bool):List Value:=[Ju f.1.key,J f.1.id,.bool f.2]
theorem kR (f:It×Bool):(iq f).length=3:=rfl
def ints (l:List Int):List Value:=l.map (Value.int .i64)
theorem nN {l:List Int} {k:Nat} {x:Int} (h:l[k]? =some x) (rest:List Value):(ints l++rest)[k]? =some (J x):=by
 have hk:=(List.getElem?_eq_some_iff.1 h).1;rw[List.getElem?_append_left (by simpa [ints]using hk)]
 simp[ints,h]
theorem ints_set (l:List Int) (k:Nat) (x:Int) (h:k<l.length) (rest:List Value):(ints l++rest).set k (J x)=ints (l.set k x)++rest:=by
 rw[List.set_append_left _ _ (by simpa [ints]using h)]
 simp[ints,List.map_set]
structure Vx where
 gl:Nat
 gn:Nat
 cap:Nat
 rest:List Value
@[reducible] def wo (p:Nat) (T:To) (c:Vx):HA:=box p [.slice (some ⟨c.gl,0,none⟩) T.leaves.length T.leaves.length,J (T.size:Nat),.slice (some ⟨c.gn,0,none⟩) T.nodes.length c.cap] 180
@[reducible] def kZ (p:Nat) (T:To) (c:Vx):List HA:=[wo p T c,box c.gl (recs iq T.leaves) 191,box c.gn (ints T.nodes++c.rest) 3]
@[reducible] def kD (p:Nat) (T:To):HA:=uk fun c=>aG (kZ p T c)
structure KW (T:To):Prop where
 pos:1≤T.leaves.length
 most:T.leaves.length≤4
 size:T.nodes.length=2*oK T.leaves.length
 vals:∀ v∈T.nodes, -1≤v∧v<T.leaves.length
 items:∀ f∈T.leaves,okI f.1
theorem qO (n:Nat) (h:n≤4):n≤oK n∧oK n≤4∧1≤oK n:=by unfold oK;split<;>(try split)<;>omega
section
variable {p:Nat} {T:To}
theorem Dq {c:Vx} {a b:Int} (hT:KW T) (ha: -1≤a) (ha':a<T.leaves.length) (hb: -1≤b) (hb':b<T.leaves.length):Does prog (kZ p T c) 150 #[ptr p,J a,J b] (J (better T.leaves a b)) (kZ p T c):=Does.ax fun S w0 w s2=>by
 obtain⟨gl,gn,cap,rest⟩:=c;have c0:At w.drew p 0 (.slice (some ⟨gl,0,none⟩) T.leaves.length T.leaves.length):=(s2.drew.row (k:=p) 0 rfl).cell rfl;have lg:∀ {i:Nat} {f:It×Bool},T.leaves[i]? =some f→At w.drew gl (i*3) (Ju f.1.key)∧At w.drew gl (i*3+1) (J f.1.id):=fun {i f} hf=>
  ⟨(s2.drew.row (k:=gl) 1 rfl).cell (iJ kR hf (j:=0) (by omega)),(s2.drew.row (k:=gl) 1 rfl).cell (iJ kR hf (j:=1) (by omega))⟩
 have hm:=hT.most;obtain⟨n,hn⟩:∃ n,n=T.leaves.length:=⟨_,rfl⟩
 rw[←hn]at c0 ha' hb' hm;have S2:=zd s2;have Lg:= @lg;have S2d:=zd s2.drew;clear s2 lg
 by_cases h1:a<0
 ·have hr:better T.leaves a b=b:=if_pos (.inl h1)
  have Hr:=zd hr;clear hr Lg
  go_enter func150,ntmps150
  go_wp2_with fail
  refine aP (by kernel_rfl) ?_;refine bu (S:=fun w'=>At w' p 0 (.slice (some ⟨gl,0,none⟩) n n)) (U:=[0,1,2,3,4,5,6,7,8,9,10,11,12,13,14,15,16,17,18,19,20,21,22,23,24]) _ _ _ _ ?_;refine bg [1,2,5,22,23,24] (i:=0) (v:=?_) rfl (by kernel_rfl) (fun _ _ _ h=>h) (Or.inl ⟨by rfl,?_⟩) c0 ?_
  rotate_left 1
  ·(intro w' hS;(try dsimp only at hS);(try simp only[ag,ah,aj]);go_simp;(try with_reducible rfl))
  try simp only[Act.put,ag,ah,aj,aF,aB,aC]
  refine bg [2,5,22,23,24] (i:=1) (v:=?_) rfl (by kernel_rfl) (fun _ _ _ h=>h) (Or.inl ⟨by rfl,?_⟩) c0 ?_
  rotate_left 1
  ·(intro w' hS;(try dsimp only at hS);(try simp only[ag,ah,aj]);go_simp;(try with_reducible rfl))
  try simp only[Act.put,ag,ah,aj,aF,aB,aC]
  refine bg [5,22,23,24] (i:=2) (v:=?_) rfl (by kernel_rfl) (fun _ _ _ h=>h) (Or.inl ⟨by rfl,?_⟩) c0 ?_
  rotate_left 1
  ·(intro w' hS;(try dsimp only at hS);(try simp only[ag,ah,aj]);go_simp;(try with_reducible rfl))
  try simp only[Act.put,ag,ah,aj,aF,aB,aC]
  refine bg [4,5,22,23,24] (i:=3) (v:=undef) rfl (by kernel_rfl) (fun _ _ _ h=>h) (Or.inr ⟨by rfl,rfl⟩) c0 ?_
  try simp only[Act.put,ag,ah,aj,aF,aB,aC]
  refine bg [5,22,23,24] (i:=4) (v:=undef) rfl (by kernel_rfl) (fun _ _ _ h=>h) (Or.inr ⟨by rfl,rfl⟩) c0 ?_
  try simp only[Act.put,ag,ah,aj,aF,aB,aC]
  refine bg [22,23,24] (i:=5) (v:=undef) rfl (by kernel_rfl) (fun _ _ _ h=>h) (Or.inr ⟨by rfl,rfl⟩) c0 ?_
  try simp only[Act.put,ag,ah,aj,aF,aB,aC]
  refine bg [7,8,9,11,12,13,22,23,24] (i:=6) (v:=undef) rfl (by kernel_rfl) (fun _ _ _ h=>h) (Or.inr ⟨by rfl,rfl⟩) c0 ?_
  try simp only[Act.put,ag,ah,aj,aF,aB,aC]
  refine bg [8,9,11,12,13,22,23,24] (i:=7) (v:=undef) rfl (by kernel_rfl) (fun _ _ _ h=>h) (Or.inr ⟨by rfl,rfl⟩) c0 ?_
  try simp only[Act.put,ag,ah,aj,aF,aB,aC]
  refine bg [9,11,12,13,22,23,24] (i:=8) (v:=undef) rfl (by kernel_rfl) (fun _ _ _ h=>h) (Or.inr ⟨by rfl,rfl⟩) c0 ?_
  try simp only[Act.put,ag,ah,aj,aF,aB,aC]
  refine bg [11,12,13,22,23,24] (i:=9) (v:=undef) rfl (by kernel_rfl) (fun _ _ _ h=>h) (Or.inr ⟨by rfl,rfl⟩) c0 ?_
  try simp only[Act.put,ag,ah,aj,aF,aB,aC]
  refine bg [11,12,13,22,23,24] (i:=10) (v:=undef) rfl (by kernel_rfl) (fun _ _ _ h=>h) (Or.inr ⟨by rfl,rfl⟩) c0 ?_
  try simp only[Act.put,ag,ah,aj,aF,aB,aC]
  refine bg [12,13,22,23,24] (i:=11) (v:=undef) rfl (by kernel_rfl) (fun _ _ _ h=>h) (Or.inr ⟨by rfl,rfl⟩) c0 ?_
  try simp only[Act.put,ag,ah,aj,aF,aB,aC]
  refine bg [13,22,23,24] (i:=12) (v:=undef) rfl (by kernel_rfl) (fun _ _ _ h=>h) (Or.inr ⟨by rfl,rfl⟩) c0 ?_
  try simp only[Act.put,ag,ah,aj,aF,aB,aC]
  refine bg [22,23,24] (i:=13) (v:=undef) rfl (by kernel_rfl) (fun _ _ _ h=>h) (Or.inr ⟨by rfl,rfl⟩) c0 ?_
  try simp only[Act.put,ag,ah,aj,aF,aB,aC]
  refine bg [15,16,17,19,20,21,22,23,24] (i:=14) (v:=undef) rfl (by kernel_rfl) (fun _ _ _ h=>h) (Or.inr ⟨by rfl,rfl⟩) c0 ?_
  try simp only[Act.put,ag,ah,aj,aF,aB,aC]
  refine bg [16,17,19,20,21,22,23,24] (i:=15) (v:=undef) rfl (by kernel_rfl) (fun _ _ _ h=>h) (Or.inr ⟨by rfl,rfl⟩) c0 ?_
  try simp only[Act.put,ag,ah,aj,aF,aB,aC]
  refine bg [17,19,20,21,22,23,24] (i:=16) (v:=undef) rfl (by kernel_rfl) (fun _ _ _ h=>h) (Or.inr ⟨by rfl,rfl⟩) c0 ?_
  try simp only[Act.put,ag,ah,aj,aF,aB,aC]
  refine bg [19,20,21,22,23,24] (i:=17) (v:=undef) rfl (by kernel_rfl) (fun _ _ _ h=>h) (Or.inr ⟨by rfl,rfl⟩) c0 ?_
  try simp only[Act.put,ag,ah,aj,aF,aB,aC]
  refine bg [19,20,21,22,23,24] (i:=18) (v:=undef) rfl (by kernel_rfl) (fun _ _ _ h=>h) (Or.inr ⟨by rfl,rfl⟩) c0 ?_
  try simp only[Act.put,ag,ah,aj,aF,aB,aC]
  refine bg [20,21,22,23,24] (i:=19) (v:=undef) rfl (by kernel_rfl) (fun _ _ _ h=>h) (Or.inr ⟨by rfl,rfl⟩) c0 ?_
  try simp only[Act.put,ag,ah,aj,aF,aB,aC]
  refine bg [21,22,23,24] (i:=20) (v:=undef) rfl (by kernel_rfl) (fun _ _ _ h=>h) (Or.inr ⟨by rfl,rfl⟩) c0 ?_
  try simp only[Act.put,ag,ah,aj,aF,aB,aC]
  refine bg [22,23,24] (i:=21) (v:=undef) rfl (by kernel_rfl) (fun _ _ _ h=>h) (Or.inr ⟨by rfl,rfl⟩) c0 ?_
  try simp only[Act.put,ag,ah,aj,aF,aB,aC]
  refine bg [23,24] (i:=22) (v:=undef) rfl (by kernel_rfl) (fun _ _ _ h=>h) (Or.inr ⟨by rfl,rfl⟩) c0 ?_
  try simp only[Act.put,ag,ah,aj,aF,aB,aC]
  refine bg [24] (i:=23) (v:=undef) rfl (by kernel_rfl) (fun _ _ _ h=>h) (Or.inr ⟨by rfl,rfl⟩) c0 ?_
  try simp only[Act.put,ag,ah,aj,aF,aB,aC]
  refine bg [] (i:=24) (v:=?_) rfl (by kernel_rfl) (fun _ _ _ h=>h) (Or.inl ⟨by rfl,?_⟩) c0 ?_
  rotate_left 1
  ·(intro w' hS;(try dsimp only at hS);(try simp only[ag,ah,aj]);go_simp;(try with_reducible rfl))
  try simp only[Act.put,ag,ah,aj,aF,aB,aC]
  refine aX _ _ _ _ (fun j hj=>?_) ?_
  ·simp at hj;rcases hj with rfl|rfl|rfl|rfl|rfl|rfl|rfl|rfl|rfl|rfl|rfl|rfl|rfl|rfl|rfl|rfl|rfl|rfl|rfl|rfl|rfl|rfl|rfl|rfl|rfl<;>rfl
  refine wpAny_done (by kernel_rfl) ?_ _
  go_wp2
  go_ret
  refine Ends.mk' (by rw[Hr.out]<;>rfl) [] ?_
  exact S2d.out
 ·have shut:=S2d
  obtain⟨i,rfl⟩:=Int.eq_ofNat_of_zero_le (show 0≤a by omega)
  by_cases h2:b<0
  ·have hr:better T.leaves i b=i:=if_neg (fun q=>q.elim (fun q=>by omega) (fun q=>by omega))
   have Hr:=zd hr;have di:decide ((i:Int)<0)=false:=by simp
   have db:decide ((0:Int)≤b)=false:=by simp;omega
   clear hr Lg
   go_enter func150,ntmps150
   go_wp2_with fail
   refine aP (by kernel_rfl) ?_;refine bu (S:=fun w'=>At w' p 0 (.slice (some ⟨gl,0,none⟩) n n)) (U:=[0,1,2,3,4,5,6,7,8,9,10,11,12,13,14,15,16,17,18,19,20,21,22,23,24]) _ _ _ _ ?_;refine bg [1,2,5,22,23,24] (i:=0) (v:=?_) rfl (by kernel_rfl) (fun _ _ _ h=>h) (Or.inl ⟨by rfl,?_⟩) c0 ?_
   rotate_left 1
   ·(intro w' hS;(try dsimp only at hS);(try simp only[ag,ah,aj]);go_simp;(try with_reducible rfl))
   try simp only[Act.put,ag,ah,aj,aF,aB,aC]
   refine bg [2,5,22,23,24] (i:=1) (v:=?_) rfl (by kernel_rfl) (fun _ _ _ h=>h) (Or.inl ⟨by rfl,?_⟩) c0 ?_
   rotate_left 1
   ·(intro w' hS;(try dsimp only at hS);(try simp only[ag,ah,aj]);go_simp;(try with_reducible rfl))
   try simp only[Act.put,ag,ah,aj,aF,aB,aC]
   refine bg [5,22,23,24] (i:=2) (v:=?_) rfl (by kernel_rfl) (fun _ _ _ h=>h) (Or.inl ⟨by rfl,?_⟩) c0 ?_
   rotate_left 1
   ·(intro w' hS;(try dsimp only at hS);(try simp only[ag,ah,aj]);go_simp;(try with_reducible rfl))
   try simp only[Act.put,ag,ah,aj,aF,aB,aC]
   refine bg [4,5,22,23,24] (i:=3) (v:=?_) rfl (by kernel_rfl) (fun _ _ _ h=>h) (Or.inl ⟨by rfl,?_⟩) c0 ?_
   rotate_left 1
   ·(intro w' hS;(try dsimp only at hS);(try simp only[ag,ah,aj]);go_simp;(try with_reducible rfl))
   try simp only[Act.put,ag,ah,aj,aF,aB,aC]
   refine bg [5,22,23,24] (i:=4) (v:=?_) rfl (by kernel_rfl) (fun _ _ _ h=>h) (Or.inl ⟨by rfl,?_⟩) c0 ?_
   rotate_left 1
   ·(intro w' hS;(try dsimp only at hS);(try simp only[ag,ah,aj]);go_simp;(try with_reducible rfl))
   try simp only[Act.put,ag,ah,aj,aF,aB,aC]
   refine bg [22,23,24] (i:=5) (v:=?_) rfl (by kernel_rfl) (fun _ _ _ h=>h) (Or.inl ⟨by rfl,?_⟩) c0 ?_
   rotate_left 1
   ·(intro w' hS;(try dsimp only at hS);(try simp only[ag,ah,aj]);go_simp;(try with_reducible rfl))
   try simp only[Act.put,ag,ah,aj,aF,aB,aC]
   refine bg [7,8,9,11,12,13,22,23,24] (i:=6) (v:=undef) rfl (by kernel_rfl) (fun _ _ _ h=>h) (Or.inr ⟨by rfl,rfl⟩) c0 ?_
   try simp only[Act.put,ag,ah,aj,aF,aB,aC]
   refine bg [8,9,11,12,13,22,23,24] (i:=7) (v:=undef) rfl (by kernel_rfl) (fun _ _ _ h=>h) (Or.inr ⟨by rfl,rfl⟩) c0 ?_
   try simp only[Act.put,ag,ah,aj,aF,aB,aC]
   refine bg [9,11,12,13,22,23,24] (i:=8) (v:=undef) rfl (by kernel_rfl) (fun _ _ _ h=>h) (Or.inr ⟨by rfl,rfl⟩) c0 ?_
   try simp only[Act.put,ag,ah,aj,aF,aB,aC]
   refine bg [11,12,13,22,23,24] (i:=9) (v:=undef) rfl (by kernel_rfl) (fun _ _ _ h=>h) (Or.inr ⟨by rfl,rfl⟩) c0 ?_
   try simp only[Act.put,ag,ah,aj,aF,aB,aC]
   refine bg [11,12,13,22,23,24] (i:=10) (v:=undef) rfl (by kernel_rfl) (fun _ _ _ h=>h) (Or.inr ⟨by rfl,rfl⟩) c0 ?_
   try simp only[Act.put,ag,ah,aj,aF,aB,aC]
   refine bg [12,13,22,23,24] (i:=11) (v:=undef) rfl (by kernel_rfl) (fun _ _ _ h=>h) (Or.inr ⟨by rfl,rfl⟩) c0 ?_
   try simp only[Act.put,ag,ah,aj,aF,aB,aC]
   refine bg [13,22,23,24] (i:=12) (v:=undef) rfl (by kernel_rfl) (fun _ _ _ h=>h) (Or.inr ⟨by rfl,rfl⟩) c0 ?_
   try simp only[Act.put,ag,ah,aj,aF,aB,aC]
   refine bg [22,23,24] (i:=13) (v:=undef) rfl (by kernel_rfl) (fun _ _ _ h=>h) (Or.inr ⟨by rfl,rfl⟩) c0 ?_
   try simp only[Act.put,ag,ah,aj,aF,aB,aC]
   refine bg [15,16,17,19,20,21,22,23,24] (i:=14) (v:=undef) rfl (by kernel_rfl) (fun _ _ _ h=>h) (Or.inr ⟨by rfl,rfl⟩) c0 ?_
   try simp only[Act.put,ag,ah,aj,aF,aB,aC]
   refine bg [16,17,19,20,21,22,23,24] (i:=15) (v:=undef) rfl (by kernel_rfl) (fun _ _ _ h=>h) (Or.inr ⟨by rfl,rfl⟩) c0 ?_
   try simp only[Act.put,ag,ah,aj,aF,aB,aC]
   refine bg [17,19,20,21,22,23,24] (i:=16) (v:=undef) rfl (by kernel_rfl) (fun _ _ _ h=>h) (Or.inr ⟨by rfl,rfl⟩) c0 ?_
   try simp only[Act.put,ag,ah,aj,aF,aB,aC]
   refine bg [19,20,21,22,23,24] (i:=17) (v:=undef) rfl (by kernel_rfl) (fun _ _ _ h=>h) (Or.inr ⟨by rfl,rfl⟩) c0 ?_
   try simp only[Act.put,ag,ah,aj,aF,aB,aC]
   refine bg [19,20,21,22,23,24] (i:=18) (v:=undef) rfl (by kernel_rfl) (fun _ _ _ h=>h) (Or.inr ⟨by rfl,rfl⟩) c0 ?_
   try simp only[Act.put,ag,ah,aj,aF,aB,aC]
   refine bg [20,21,22,23,24] (i:=19) (v:=undef) rfl (by kernel_rfl) (fun _ _ _ h=>h) (Or.inr ⟨by rfl,rfl⟩) c0 ?_
   try simp only[Act.put,ag,ah,aj,aF,aB,aC]
   refine bg [21,22,23,24] (i:=20) (v:=undef) rfl (by kernel_rfl) (fun _ _ _ h=>h) (Or.inr ⟨by rfl,rfl⟩) c0 ?_
   try simp only[Act.put,ag,ah,aj,aF,aB,aC]
   refine bg [22,23,24] (i:=21) (v:=undef) rfl (by kernel_rfl) (fun _ _ _ h=>h) (Or.inr ⟨by rfl,rfl⟩) c0 ?_
   try simp only[Act.put,ag,ah,aj,aF,aB,aC]
   refine bg [23,24] (i:=22) (v:=undef) rfl (by kernel_rfl) (fun _ _ _ h=>h) (Or.inr ⟨by rfl,rfl⟩) c0 ?_
   try simp only[Act.put,ag,ah,aj,aF,aB,aC]
   refine bg [24] (i:=23) (v:=?_) rfl (by kernel_rfl) (fun _ _ _ h=>h) (Or.inl ⟨by rfl,?_⟩) c0 ?_
   rotate_left 1
   ·(intro w' hS;(try dsimp only at hS);(try simp only[ag,ah,aj]);go_simp;(try with_reducible rfl))
   try simp only[Act.put,ag,ah,aj,aF,aB,aC]
   refine bg [] (i:=24) (v:=?_) rfl (by kernel_rfl) (fun _ _ _ h=>h) (Or.inl ⟨by rfl,?_⟩) c0 ?_
   rotate_left 1
   ·(intro w' hS;(try dsimp only at hS);(try simp only[ag,ah,aj]);go_simp;(try with_reducible rfl))
   try simp only[Act.put,ag,ah,aj,aF,aB,aC]
   refine aX _ _ _ _ (fun j hj=>?_) ?_
   ·simp at hj;rcases hj with rfl|rfl|rfl|rfl|rfl|rfl|rfl|rfl|rfl|rfl|rfl|rfl|rfl|rfl|rfl|rfl|rfl|rfl|rfl|rfl|rfl|rfl|rfl|rfl|rfl<;>rfl
   refine wpAny_done (by kernel_rfl) ?_ _
   go_wp2
   go_ret
   refine Ends.mk' (by rw[Hr.out];rfl) [] ?_
   exact shut.out
  ·obtain⟨j,rfl⟩:=Int.eq_ofNat_of_zero_le (show 0≤b by omega)
   obtain⟨x,hx⟩:∃ x,T.leaves[i]? =some x:=⟨_,List.getElem?_eq_getElem (by omega)⟩
   obtain⟨y,hy⟩:∃ y,T.leaves[j]? =some y:=⟨_,List.getElem?_eq_getElem (by omega)⟩
   obtain⟨x0,x1⟩:=Lg hx;obtain⟨y0,y1⟩:=Lg hy;obtain⟨bb,hbb⟩:∃ bb,ahead y.1 x.1=bb:=⟨_,rfl⟩
   have hr:better T.leaves i j=if bb=true then(j:Int)else(i:Int):=by
    unfold better;simp only[Int.toNat_natCast,List.getD_eq_getElem?_getD,hx,hy,Option.getD_some,hbb]
    cases bb
    ·rw[if_neg (by simp),if_neg (by simp)]
    ·rw[if_pos (by simp),if_pos rfl]
   obtain⟨⟨xk,xi⟩,xb⟩:=x;obtain⟨⟨yk,yi⟩,yb⟩:=y
   simp only at x0 x1 y0 y1 hbb
   have Hr:=zd hr;have Hbb:=zd hbb;have h0:At w.drew p 0 (.slice (some ⟨gl,0,none⟩) n n)∧At w.drew gl (i*3) (Ju xk)∧At w.drew gl (i*3+1) (J xi)∧At w.drew gl (j*3) (Ju yk)∧At w.drew gl (j*3+1) (J yi):=⟨c0,x0,x1,y0,y1⟩
   have i0:(0:Int)≤(i:Int):=by omega
   have j0:(0:Int)≤(j:Int):=by omega
   have i1:i<n:=by omega
   have j1:j<n:=by omega
   have di:decide ((i:Int)<0)=false:=by simp
   have dj:decide ((0:Int)≤(j:Int))=true:=by simp
   clear hr hbb Lg hx hy c0 x0 x1 y0 y1 ha hb ha' hb' h1 h2 shut hn hm
   go_enter func150,ntmps150
   go_wp2_with fail
   refine aP (by kernel_rfl) ?_;refine bu (S:=fun w'=>At w' p 0 (.slice (some ⟨gl,0,none⟩) n n)∧At w' gl (i*3) (Ju xk)∧At w' gl (i*3+1) (J xi)∧At w' gl (j*3) (Ju yk)∧At w' gl (j*3+1) (J yi)) (U:=[0,1,2,3,4,5,6,7,8,9,10,11,12,13,14,15,16,17,18,19,20,21]) _ _ _ _ ?_;refine dB [0,1,2,3,4,5,6,7,8,9,10,11,12,13,14,15,16,17,18,19,20,21] ?_
   repeat (refine aN _ rfl (by kernel_rfl) (fun _ _ _ h=>h) h0 (fun w' hS=>by(try dsimp only at hS);(try simp only[ag,ah,aj]);go_simp;try with_reducible rfl) ?_;try simp only[Act.put,ag,ah,aj,aF,aB,aC])
   refine bM ?_;refine aX _ _ _ _ (fun j hj=>?_) ?_
   ·simp at hj;rcases hj with rfl|rfl|rfl|rfl|rfl|rfl|rfl|rfl|rfl|rfl|rfl|rfl|rfl|rfl|rfl|rfl|rfl|rfl|rfl|rfl|rfl|rfl<;>rfl
   refine af 22 (by kernel_rfl) rfl (by rfl) fun K hK=>?_
   go_simp;refine((l9 ⟨yk,yi⟩ ⟨xk,xi⟩).at S2d.out).mono ?_
   rintro e wq ⟨he,sq⟩
   rw[Hbb.out]at he;subst he;refine hK _ _ ?_;have Sq:=zd sq;clear hK K sq h0
   try simp only[Act.put,ag,ah,aj,aF,aB,aC]
   refine aY [23,24] ?_
   repeat (refine ay _ rfl (by kernel_rfl) (fun _ _ _ h=>h) (fun w'=>by(try simp only[ag,ah,aj]);go_simp;try with_reducible rfl) ?_;try simp only[Act.put,ag,ah,aj,aF,aB,aC])
   refine aH ?_;refine wpAny_done (by kernel_rfl) ?_ _
   cases bb
   ·go_wp2
    go_ret
    refine Ends.mk' (by rw[Hr.out]<;>rfl) [] ?_
    exact Sq.out
   ·go_wp2
    go_ret
    refine Ends.mk' (by rw[Hr.out]<;>rfl) [] ?_
    exact Sq.out
end
@[reducible] def Vp (f:It×Bool):Value:=.agg #[Ju f.1.key,J f.1.id,.bool f.2]
theorem Bz {T:To} (hT:KW T) {a b:Int} (ha: -1≤a∧a<T.leaves.length) (hb: -1≤b∧b<T.leaves.length): -1≤better T.leaves a b∧better T.leaves a b<T.leaves.length:=by
 unfold better;split
 ·exact hb
 ·exact ha
theorem xU {n:Nat} (h:n<9223372036854775808):IntKind.i64.wrap ((n:Nat):Int)=((n:Nat):Int):=by
 rw[IntKind.wrap_i64];omega
theorem Rn (lv:List (It×Bool)) (f:Nat) (L:List Int):tup lv f L 0=L:=by cases f<;>simp[tup]
theorem PU (lv:List (It×Bool)) (f:Nat) (L:List Int) (k:Nat) (hk:0<k):tup lv (f+1) L k=tup lv f (L.set k (better lv (L.getD (2*k) 0) (L.getD (2*k+1) 0))) (k / 2):=by
 rw[tup,if_neg (by omega)]
section
variable {p:Nat} {T:To}
theorem Ah {i:Nat} {f:It×Bool} (hT:KW T) (hi:i<T.leaves.length) (hf:okI f.1):Does prog [kD p T] 111 #[ptr p,J i,Vp f] (.bool true) [kD p (T.qx i f)]:=Does.ax fun S w0 w h=>by
 obtain⟨c,s1⟩:=Scope.xq (F:=fun c=>aG (kZ p T c)) h;have s2:Scope S w0 w (kZ p T c):=by simpa using Scope.gU s1
 obtain⟨gl,gn,cap,rest⟩:=c;obtain⟨F,hF⟩:∃ F,F=w.heap.size:=⟨_,rfl⟩
 obtain⟨W,hW⟩:∃ W,W=w.alloc (.cells #[Ju f.1.key,J f.1.id,.bool f.2] 191):=⟨_,rfl⟩
 have s3:=s2.box (iq f) 191;rw[←hF,show w.alloc (.cells (iq f).toArray 191)=W from hW.symm]at s3;obtain⟨⟨fk,fi⟩,fb⟩:=f;obtain⟨n,hn⟩:∃ n,n=T.leaves.length:=⟨_,rfl⟩
 obtain⟨N,hN⟩:∃ N,N=T.nodes.length:=⟨_,rfl⟩
 obtain⟨sz,hsz⟩:∃ sz,sz=T.size:=⟨_,rfl⟩
 have hts:=qO T.leaves.length hT.most;have hNs:N=2*sz:=by rw[hN,hsz];unfold To.size;rw[hT.size];omega
 have hns:n≤sz:=by rw[hn,hsz];unfold To.size;rw[hT.size];omega
 have hs4:sz≤4:=by rw[hsz];unfold To.size;rw[hT.size];omega
 have hin:i<n:=by rw[hn];exact hi
 have c0:w.cell? ⟨p,0,none⟩=some (.slice (some ⟨gl,0,none⟩) n n):=by rw[hn];exact(s2.row (k:=p) 0 rfl).cell rfl
 have lp:=(s2.row (k:=p) 0 rfl).lt;have d0:W.drew.cell? ⟨p,0,none⟩=some (.slice (some ⟨gl,0,none⟩) n n):=by rw[hn];exact(s3.drew.row (k:=p) 0 rfl).cell rfl
 have d1:At W.drew F 0 (Ju fk):=(s3.drew.row (k:=F) 3 rfl).cell rfl;have d2:At W.drew F 1 (J fi):=(s3.drew.row (k:=F) 3 rfl).cell rfl;have d3:At W.drew F 2 (.bool fb):=(s3.drew.row (k:=F) 3 rfl).cell rfl;have i0:(0:Int)≤(i:Int):=by omega
 have i1:¬ n≤i:=by omega
 have S3:=zd s3.drew;have HF:=zd hF;have HW:=zd hW;have HT:=zd hT;have Hn:=zd hn;have HN:=zd hN;have Hsz:=zd hsz;have Hf:=zd hf;have HNs:=zd hNs;clear h s1 s2 s3 hF hW hT hn hN hsz hts hNs hi hf
 go_enter func111,ntmps111
 go_wp2_with fail
 rw[←HF.out,show w.alloc (.cells #[Ju fk,J fi,.bool fb] 191)=W from HW.out.symm];refine aP (by kernel_rfl) ?_;have h0:At W.drew p 0 (.slice (some ⟨gl,0,none⟩) n n)∧At W.drew F 0 (Ju fk)∧At W.drew F 1 (J fi)∧At W.drew F 2 (.bool fb):=⟨d0,d1,d2,d3⟩
 clear c0 lp d0 d1 d2 d3;generalize W.drew=V at S3 h0 ⊢
 refine aY [0,4] ?_
 repeat (refine ay _ rfl (by kernel_rfl) (fun _ _ _ h=>h) (fun w'=>by(try simp only[ag,ah,aj]);go_simp;try with_reducible rfl) ?_;try simp only[Act.put,ag,ah,aj,aF,aB,aC])
 refine aH ?_;refine bu (S:=fun w'=>At w' p 0 (.slice (some ⟨gl,0,none⟩) n n)∧At w' F 0 (Ju fk)∧At w' F 1 (J fi)∧At w' F 2 (.bool fb)) (U:=[1,2,3,5]) _ _ _ _ ?_;refine dB [1,2,3,5] ?_
 repeat (refine aN _ rfl (by kernel_rfl) (fun _ _ _ h=>h) h0 (fun w' hS=>by(try dsimp only at hS);(try simp only[ag,ah,aj]);go_simp;try with_reducible rfl) ?_;try simp only[Act.put,ag,ah,aj,aF,aB,aC])
 refine bM ?_;refine aX _ _ _ _ (fun j hj=>?_) ?_
 ·simp at hj;rcases hj with rfl|rfl|rfl|rfl<;>rfl
 have i2:i<n:=by omega
 refine aY [6] ?_
 repeat (refine ay _ rfl (by kernel_rfl) (fun _ _ _ h=>h) (fun w'=>by(try simp only[ag,ah,aj]);go_simp;try with_reducible rfl) ?_;try simp only[Act.put,ag,ah,aj,aF,aB,aC])
 refine aH ?_;have rl:=S3.out.row (k:=gl) 1 rfl;obtain⟨y,hy⟩:∃ y,T.leaves[i]? =some y:=⟨_,List.getElem?_eq_getElem (by rw[←Hn.out];exact hin)⟩
 have e0:V.cell? ⟨gl,i*3,none⟩=_:=rl.cell (iJ kR hy (j:=0) (by omega));have e1:V.cell? ⟨gl,i*3+1,none⟩=_:=rl.cell (iJ kR hy (j:=1) (by omega));have e2:V.cell? ⟨gl,i*3+2,none⟩=_:=rl.cell (iJ kR hy (j:=2) (by omega));have f0:=rl.free (i*3);have f1:=rl.free (i*3+1);have f2:=rl.free (i*3+2);refine af 7 (by kernel_rfl) rfl (by rfl) fun K hK=>?_
 go_simp;refine hK _ _ ?_;clear hK K
 try simp only[Act.put,ag,ah,aj,aF,aB,aC]
 refine wpAny_done (by kernel_rfl) ?_ _;clear e0 e1 e2 f0 f1 f2 h0;obtain⟨lv,hlv⟩:∃ lv,lv=T.leaves.set i ((⟨fk,fi⟩:It),fb):=⟨_,rfl⟩
 obtain⟨V1,hV1⟩:∃ V1,V1=((V.setCell ⟨gl,i*3,none⟩ (Ju fk)).setCell ⟨gl,i*3+1,none⟩ (J fi)).setCell ⟨gl,i*3+2,none⟩ (.bool fb):=⟨_,rfl⟩
 have t1:Scope S w0 V1 ([wo p T ⟨gl,gn,cap,rest⟩]++([box gl (setAll (recs iq T.leaves) (i*3) (iq (⟨fk,fi⟩,fb))) 191]++[box gn (ints T.nodes++rest) 3,box F (iq (⟨fk,fi⟩,fb)) 191])):=by
  rw[hV1]
  exact Scope.Ux (As:=[wo p T ⟨gl,gn,cap,rest⟩]) (Bs:=[box gn (ints T.nodes++rest) 3,box F (iq (⟨fk,fi⟩,fb)) 191]) (iq (⟨fk,fi⟩,fb)) S3.out (i*3)
 rw[vN kR _ _ _ (by rw[←Hn.out];exact hin), ←hlv]at t1;have hlen:lv.length=n:=by rw[hlv,List.length_set,Hn.out]
 have hokv:∀ g∈lv,okI g.1:=fun g hg=>by
  rw[hlv]at hg
  rcases List.mem_or_eq_of_mem_set hg with h|h
  ·exact HT.out.items g h
  ·subst h;exact Hf.out
 have t2:Scope S w0 V1 (([wo p T ⟨gl,gn,cap,rest⟩,box gl (recs iq lv) 191])++([box gn (ints T.nodes++rest) 3]++[box F (iq (⟨fk,fi⟩,fb)) 191])):=t1;obtain⟨K,hK⟩:∃ K,K=sz+i:=⟨_,rfl⟩
 have HNs':=HNs.out;have hKN:K<N:=by omega
 have c1:V1.cell? ⟨p,1,none⟩=some (J sz):=by rw[Hsz.out];exact(t2.row (k:=p) 0 rfl).cell rfl
 have c2:V1.cell? ⟨p,2,none⟩=some (.slice (some ⟨gn,0,none⟩) N cap):=by rw[HN.out];exact(t2.row (k:=p) 0 rfl).cell rfl
 obtain⟨v,hv⟩:∃ v,T.nodes[K]? =some v:=⟨_,List.getElem?_eq_getElem (by rw[←HN.out];exact hKN)⟩
 have z0:V1.cell? ⟨gn,sz+i,none⟩=some (J v):=by rw[←hK];exact(t2.row (k:=gn) 2 rfl).cell (nN hv rest)
 have zf:=(t2.row (k:=gn) 2 rfl).free (sz+i);have hpn:p≠gn:=t2.bne (i:=0) (j:=2) (by omega) rfl rfl;have hFn:gn≠F:=t2.bne (i:=2) (j:=3) (by omega) rfl rfl;have fc:At V1 F 2 (.bool fb):=(t2.row (k:=F) 3 rfl).cell rfl;have k0:sz+i<N:=by omega
 have t3:=Scope.au t2 (sz+i) (J (-1));rw[ints_set _ _ _ (by rw[←HN.out];omega)]at t3;have HlV:=zd hlv;have HV1:=zd hV1;have Hlen:=zd hlen;have Hokv:=zd hokv;have HK:=zd hK;have T3:=zd t3;clear t1 t2 t3 hlv hV1 hlen hokv hK hv S3 rl hy hKN HNs' i2;rw[show(((V.setCell ⟨gl,i*3,none⟩ (Ju fk)).setCell ⟨gl,i*3+1,none⟩ (J fi)).setCell ⟨gl,i*3+2,none⟩ (.bool fb))=V1 from HV1.out.symm];have tb:∀ L:List Int,L.length=T.nodes.length→wo p T ⟨gl,gn,cap,rest⟩=wo p ⟨lv,L⟩ ⟨gl,gn,cap,rest⟩:=fun L hL=>by
  have h1:lv.length=T.leaves.length:=by rw[HlV.out,List.length_set]
  have h2:To.size ⟨lv,L⟩=T.size:=by unfold To.size;rw[hL]
  show box _ _ _=box _ _ _
  rw[show(⟨lv,L⟩:To).leaves.length=T.leaves.length from h1,show(⟨lv,L⟩:To).nodes.length=T.nodes.length from hL,h2]
 have Tb:=zd tb;have okN:∀ v∈T.nodes, -1≤v∧v<n:=fun v hv=>by rw[Hn.out];exact HT.out.vals v hv
 have OkN:=zd okN;clear tb okN HNs;have start:∀ (L0:List Int) (Vs:World),L0=T.nodes.set K (wR i ((⟨fk,fi⟩:It),fb))→Scope S w0 Vs (([wo p T ⟨gl,gn,cap,rest⟩,box gl (recs iq lv) 191])++([box gn (ints L0++rest) 3]++[box F (iq (⟨fk,fi⟩,fb)) 191]))→
   ∃ (k f':Nat) (L:List Int),J (((sz:Int)+(i:Int)) / 2)=J k∧k≤f'∧k<sz∧(⟨lv,tup lv f' L k⟩:To)=T.qx i ((⟨fk,fi⟩:It),fb)∧L.length=N∧(∀ v∈L, -1≤v∧v<n)∧Scope S w0 Vs (kZ p ⟨lv,L⟩ ⟨gl,gn,cap,rest⟩++[box F (iq (⟨fk,fi⟩,fb)) 191]):=by
  rintro L0 Vs rfl hs
  refine⟨(sz+i) / 2,sz+i,T.nodes.set K (wR i ((⟨fk,fi⟩:It),fb)),by congr 1,by omega,by have:=hin;omega,?_,by rw[List.length_set,HN.out],fun v hv=>?_,?_⟩
  ·unfold To.qx;rw[←Hsz.out, ←HlV.out, ←HK.out]
  ·rcases List.mem_or_eq_of_mem_set hv with h|h
   ·exact OkN.out v h
   ·subst h;unfold wR;split<;>omega
  ·rw[Tb.out (T.nodes.set K (wR i (⟨fk,fi⟩,fb))) (by rw[List.length_set])]at hs
   exact hs
 have Start:=zd start;clear start;have hgo:∃ (L0:List Int) (Vs:World),Vs=(if fb=true then(V1.setCell ⟨gn,sz+i,none⟩ (J (-1))).setCell ⟨gn,sz+i,none⟩ (J i)else V1.setCell ⟨gn,sz+i,none⟩ (J (-1)))∧L0=T.nodes.set K (wR i ((⟨fk,fi⟩:It),fb))∧Scope S w0 Vs (([wo p T ⟨gl,gn,cap,rest⟩,box gl (recs iq lv) 191])++([box gn (ints L0++rest) 3]++[box F (iq (⟨fk,fi⟩,fb)) 191])):=by
  cases fb
  ·refine⟨_,_,rfl,rfl,?_⟩
   rw[HK.out]
   exact T3.out
  ·refine⟨_,_,rfl,rfl,?_⟩
   have t4:=Scope.au T3.out (sz+i) (J i);rw[ints_set _ _ _ (by rw[List.length_set, ←HN.out];omega),List.set_set]at t4;rw[HK.out]
   exact t4
 obtain⟨L0,Vs,hVs,hL0,hs⟩:=hgo;have Go:=zd (Start.out L0 Vs hL0 hs);have HVs:=zd hVs;clear hVs hL0 hs T3;obtain⟨R,hR⟩:∃ R,R=T.qx i ((⟨fk,fi⟩:It),fb):=⟨_,rfl⟩
 have HR:=zd hR;rw[←hR]at Go;rw[←hR];clear hR Start
 cases fb
 all_goals
  go_wp2_with fail
  have hVs:=HVs.out;simp only[if_true,if_false,Bool.false_eq_true]at hVs;rw[←hVs];clear hVs HVs c1 c2 z0 zf fc
  go_loopw [7] (fun a wr=>∃ (k f':Nat) (L:List Int),a=J k∧k≤f'∧k<sz∧(⟨lv,tup lv f' L k⟩:To)=R∧L.length=N∧(∀ v∈L, -1≤v∧v<n)∧Scope S w0 wr (kZ p ⟨lv,L⟩ ⟨gl,gn,cap,rest⟩++[box F (iq (⟨fk,fi⟩,_)) 191])) (fun a _=>(intOf a).toNat)
  case atStart=>exact Go.out
  case round=>
   obtain⟨k,f',L,rfl,hkf,hks,hR,hLN,hLv,hx⟩:=hrel
   by_cases hk:0<k
   ·obtain⟨f',rfl⟩:∃ f'',f'=f''+1:=⟨f' - 1,by omega⟩
    rw[PU _ _ _ _ hk]at hR;have hNs:N=2*sz:=by rw[HN.out,Hsz.out];unfold To.size;rw[HT.out.size];omega
    obtain⟨a,ha⟩:∃ a,L[2*k]? =some a:=⟨_,List.getElem?_eq_getElem (by omega)⟩
    obtain⟨b,hb⟩:∃ b,L[2*k+1]? =some b:=⟨_,List.getElem?_eq_getElem (by omega)⟩
    rw[show L.getD (2*k) 0=a by rw[List.getD_eq_getElem?_getD,ha];rfl,show L.getD (2*k+1) 0=b by rw[List.getD_eq_getElem?_getD,hb];rfl]at hR;have hav:=hLv a (List.mem_of_getElem? ha);have hbv:=hLv b (List.mem_of_getElem? hb);have okT:KW ⟨lv,L⟩:=by
     have h1:=Hlen.out;have h2:=Hn.out;refine⟨?_,?_,?_,?_,Hokv.out⟩
     ·rw[show(⟨lv,L⟩:To).leaves.length=n from h1,h2];exact HT.out.pos
     ·rw[show(⟨lv,L⟩:To).leaves.length=n from h1,h2];exact HT.out.most
     ·rw[show(⟨lv,L⟩:To).nodes.length=N from hLN,show(⟨lv,L⟩:To).leaves.length=n from h1,h2,HN.out];exact HT.out.size
     ·intro v hv;rw[show(⟨lv,L⟩:To).leaves.length=n from h1];exact hLv v hv
    have hbr:=Bz okT (a:=a) (b:=b) (by rw[show(⟨lv,L⟩:To).leaves.length=n from Hlen.out];exact hav) (by rw[show(⟨lv,L⟩:To).leaves.length=n from Hlen.out];exact hbv);have hbd:=fun(c:Vx)=>Dq (p:=p) (c:=c) okT (a:=a) (b:=b) hav.1 (by rw[show(⟨lv,L⟩:To).leaves.length=n from Hlen.out];exact hav.2) hbv.1 (by rw[show(⟨lv,L⟩:To).leaves.length=n from Hlen.out];exact hbv.2)
    rw[show(⟨lv,L⟩:To).leaves.length=n from Hlen.out]at hbr
    simp only at hbr hbd
    obtain⟨r,hr⟩:∃ r,r=better lv a b:=⟨_,rfl⟩
    rw[←hr]at hR hbr hbd;have sd:=hx.drew;obtain⟨e,he⟩:∃ e,e=2*k:=⟨_,rfl⟩
    obtain⟨o,ho⟩:∃ o,o=2*k+1:=⟨_,rfl⟩
    have c2:wr.drew.cell? ⟨p,2,none⟩=some (.slice (some ⟨gn,0,none⟩) N cap):=by rw[←hLN];exact(sd.row (k:=p) 0 rfl).cell rfl
    have n0:wr.drew.cell? ⟨gn,e,none⟩=some (J a):=by rw[he];exact(sd.row (k:=gn) 2 rfl).cell (nN ha rest)
    have n1:wr.drew.cell? ⟨gn,o,none⟩=some (J b):=by rw[ho];exact(sd.row (k:=gn) 2 rfl).cell (nN hb rest)
    have h0:At wr.drew p 2 (.slice (some ⟨gn,0,none⟩) N cap)∧At wr.drew gn e (J a)∧At wr.drew gn o (J b):=⟨c2,n0,n1⟩
    have w1:IntKind.i64.wrap (2*(k:Int))=(e:Int):=by rw[he];exact(xU (show 2*k<9223372036854775808 by omega)).trans (by simp)
    have w2:IntKind.i64.wrap ((e:Int)+1)=(o:Int):=by rw[he,ho];exact(xU (show 2*k+1<9223372036854775808 by omega)).trans (by simp)
    have k1:e<N:=by omega
    have k2:o<N:=by omega
    have k3:k<N:=by omega
    have k0:(k:Int)>0:=by omega
    have Sd:=zd sd;have HR2:=zd hR;have HLN:=zd hLN;have HLv:=zd hLv;have Hbr:=zd hbr;have Hbd:=zd hbd;have Ha:=zd ha;have Hb:=zd hb;have He:=zd he;have Ho:=zd ho;clear sd hx hR hLN hLv hbr hbd ha hb hav hbv okT hr c2 n0 n1 hNs he ho
    go_wp2_with fail
    refine aP (by kernel_rfl) ?_;generalize wr.drew=V2 at Sd h0 ⊢
    refine aY [4,5,10,11,18,19,20] ?_
    repeat (refine ay _ rfl (by kernel_rfl) (fun _ _ _ h=>h) (fun w'=>by(try simp only[ag,ah,aj]);go_simp;try with_reducible rfl) ?_;try simp only[Act.put,ag,ah,aj,aF,aB,aC])
    refine aH ?_;refine bu (S:=fun w'=>At w' p 2 (.slice (some ⟨gn,0,none⟩) N cap)∧At w' gn e (J a)∧At w' gn o (J b)) (U:=[0,1,2,3,6,7,8,9,12,13,14,15,16,17,21,22,23]) _ _ _ _ ?_;refine dB [0,1,2,3,6,7,8,9,12,13,14,15,16,17,21,22] ?_
    repeat (refine aN _ rfl (by kernel_rfl) (fun _ _ _ h=>h) h0 (fun w' hS=>by(try dsimp only at hS);(try simp only[ag,ah,aj]);go_simp;try with_reducible rfl) ?_;try simp only[Act.put,ag,ah,aj,aF,aB,aC])
    refine bM ?_;refine aK 23 (by kernel_rfl) rfl (by rfl) fun K hK=>?_
    go_simp;refine((Hbd.out ⟨gl,gn,cap,rest⟩).call (Bs:=[box F (iq (⟨fk,fi⟩,_)) 191]) Sd.out).mono ?_
    rintro er w3 ⟨rfl,s4⟩
    have rn:=s4.row (k:=gn) 2 rfl;have h1:At w3 p 2 (.slice (some ⟨gn,0,none⟩) N cap)∧At w3 gn e (J a)∧At w3 gn o (J b):=
     ⟨by rw[←HLN.out];exact(s4.row (k:=p) 0 rfl).cell rfl,by rw[He.out];exact rn.cell (nN Ha.out rest),by rw[Ho.out];exact rn.cell (nN Hb.out rest)⟩
    refine hK _ _ ⟨fun _=>h1,?_⟩;obtain⟨v0,hv0⟩:∃ v0,L[k]? =some v0:=⟨_,List.getElem?_eq_getElem (by rw[HLN.out];exact k3)⟩
    have z0:At w3 gn k (J v0):=rn.cell (nN hv0 rest);have zf:=rn.free k;have s5:Scope S w0 w3 ([wo p ⟨lv,L⟩ ⟨gl,gn,cap,rest⟩,box gl (recs iq lv) 191]++([box gn (ints L++rest) 3]++[box F (iq (⟨fk,fi⟩,_)) 191])):=s4;have t5:=Scope.au s5 k (J r);rw[ints_set _ _ _ (by rw[HLN.out];exact k3)]at t5;have T5:=zd t5;clear hK K h0 rn s4 s5 t5 hv0 h1 Sd
    try simp only[Act.put,ag,ah,aj,aF,aB,aC]
    refine aX _ _ _ _ (fun j hj=>?_) ?_
    ·simp at hj;rcases hj with rfl|rfl|rfl|rfl|rfl|rfl|rfl|rfl|rfl|rfl|rfl|rfl|rfl|rfl|rfl|rfl|rfl<;>rfl
    refine aY [24] ?_
    repeat (refine ay _ rfl (by kernel_rfl) (fun _ _ _ h=>h) (fun w'=>by(try simp only[ag,ah,aj]);go_simp;try with_reducible rfl) ?_;try simp only[Act.put,ag,ah,aj,aF,aB,aC])
    refine aH ?_;refine af 25 (by kernel_rfl) rfl (by rfl) fun K hK=>?_
    go_simp;refine hK _ _ ?_;clear hK K
    try simp only[Act.put,ag,ah,aj,aF,aB,aC]
    refine wpAny_done (by kernel_rfl) ?_ _;clear z0 zf
    go_wp2
    go_roundw
    case rel=>exact⟨k / 2,f',L.set k r,by go_num,by omega,by omega,HR2.out,by rw[List.length_set,HLN.out],fun v hv=>by
     rcases List.mem_or_eq_of_mem_set hv with h|h
     ·exact HLv.out v h
     ·subst h;exact Hbr.out,by
     have t6:=T5.out
     rw[show wo p ⟨lv,L⟩ ⟨gl,gn,cap,rest⟩=wo p ⟨lv,L.set k r⟩ ⟨gl,gn,cap,rest⟩ by
      rw[←Tb.out L (by rw[HLN.out,HN.out]), ←Tb.out (L.set k r) (by rw[List.length_set,HLN.out,HN.out])]]at t6
     exact t6⟩
    case measure=>simp[intOf];omega
   ·obtain rfl:k=0:=by omega
    rw[Rn]at hR;have Hx:=zd hx;clear hx
    go_wp2
    go_ret
    have q:=Scope.tX (F:=fun c=>aG (kZ p ⟨lv,L⟩ c)) ⟨gl,gn,cap,rest⟩ (Scope.shut1 (As:=kZ p ⟨lv,L⟩ ⟨gl,gn,cap,rest⟩) Hx.out);rw[hR,HR.out]at q;refine⟨rfl,?_⟩
    exact⟨[_],q⟩
end
theorem Qe (lv:List (It×Bool)) (n:Nat) (hn:lv.length=n):∀ (f:Nat) (L:List Int) (k:Nat),(∀ v∈L, -1≤v∧v<n)→1≤n→(tup lv f L k).length=L.length∧∀ v∈tup lv f L k, -1≤v∧v<n
 |0,L,_,h,_=>⟨rfl,h⟩
 |f+1,L,k,h,hp=>by
  unfold tup
  split
  ·exact⟨rfl,h⟩
  ·have hg:∀ j, -1≤L.getD j 0∧L.getD j 0<n:=fun j=>by
    rw[List.getD_eq_getElem?_getD]
    cases hj:L[j]? with
    |none=>simp;omega
    |some v=>exact h v (List.mem_of_getElem? hj)
   obtain⟨h1,h2⟩:=Qe lv n hn f (L.set k (better lv (L.getD (2*k) 0) (L.getD (2*k+1) 0))) (k / 2) (fun v hv=>by
    rcases List.mem_or_eq_of_mem_set hv with q|q
    ·exact h v q
    ·subst q
     unfold better;split
     ·exact hg _
     ·exact hg _) hp
   exact⟨by rw[h1,List.length_set],h2⟩
theorem KW.qx {T:To} (h:KW T) {i:Nat} {f:It×Bool} (hi:i<T.leaves.length) (hf:okI f.1):KW (T.qx i f)∧(T.qx i f).leaves.length=T.leaves.length:=by
 have hl:(T.qx i f).leaves.length=T.leaves.length:=by unfold To.qx;simp
 obtain⟨h1,h2⟩:=Qe (T.leaves.set i f) T.leaves.length (by simp) (T.size+i) (T.nodes.set (T.size+i) (wR i f)) ((T.size+i) / 2) (fun v hv=>by
  rcases List.mem_or_eq_of_mem_set hv with q|q
  ·exact h.vals v q
  ·subst q;unfold wR;split<;>omega) h.pos
 refine⟨⟨by rw[hl];exact h.pos,by rw[hl];exact h.most,?_,?_,fun g hg=>?_⟩,hl⟩
 ·rw[hl];unfold To.qx;simp only;rw[h1,List.length_set];exact h.size
 ·rw[hl];exact h2
 ·unfold To.qx at hg;simp only at hg
  rcases List.mem_or_eq_of_mem_set hg with q|q
  ·exact h.items g q
  ·subst q;exact hf
theorem KW.new {n:Nat} (h1:1≤n) (h4:n≤4):KW (.new n) where
 pos:=by simp[To.new];exact h1
 most:=by simp[To.new];exact h4
 size:=by simp[To.new]
 vals:=fun v hv=>by simp[To.new]at hv;obtain⟨_,rfl⟩:=hv;simp[To.new];omega
 items:=fun f hf=>by simp[To.new]at hf;obtain⟨_,rfl⟩:=hf;exact oU
def UQ (x:Option (Nat×It)):Value:=match x with|none=>.tuple #[J 0,.agg #[Ju 0,J 0],.bool false]|some x=>.tuple #[J (x.1:Nat),.agg #[Ju x.2.key,J x.2.id],.bool true]
section
variable {p:Nat} {T:To}
theorem NY {i:Nat} {x:It} (hT:KW T) (hi:i<T.leaves.length) (hx:okI x):Does prog [kD p T] 83 #[ptr p,J i,x.val] (.bool true) [kD p (T.qx i (x,true))]:=Does.ax fun S w0 w h=>by
 have s1:=zd (h.box [Ju x.key,J x.id] 156);clear h;obtain⟨xk,xi⟩:=x;unfold It.val
 go_enter func83,ntmps83
 go_wp2_with fail
 refine((Ah (f:=(⟨xk,xi⟩,true)) hT hi hx).at0 s1.out).mono ?_
 rintro e w1 ⟨rfl,s2⟩
 have S2:=zd s2;clear s2
 go_wp2
 go_ret
 exact Ends.mk [box w.heap.size [Ju xk,J xi] 156] S2.out
theorem DJ {i:Nat} (hT:KW T) (hi:i<T.leaves.length):Does prog [kD p T] 84 #[ptr p,J i] (.bool true) [kD p (T.qx i (.zero,false))]:=Does.ax fun S w0 w h=>by
 have s1:=zd h;clear h
 go_enter func84,ntmps84
 go_wp2_with fail
 refine((Ah (f:=(It.zero,false)) hT hi oU).at0 s1.out).mono ?_
 rintro e w1 ⟨rfl,s2⟩
 have S2:=zd s2;clear s2
 go_wp2
 go_ret
 exact Ends.mk [] S2.out
theorem Nb (hT:KW T):Does prog [kD p T] 61 #[ptr p] (UQ T.win) [kD p T]:=Does.ax fun S w0 w h=>by
 obtain⟨c,s1⟩:=Scope.xq (F:=fun c=>aG (kZ p T c)) h;have s2:Scope S w0 w (kZ p T c):=by simpa using Scope.gU s1
 obtain⟨gl,gn,cap,rest⟩:=c;obtain⟨B,hB⟩:∃ B,B=w.heap.size:=⟨_,rfl⟩
 obtain⟨W,hW⟩:∃ W,W=w.alloc (.cells #[Ju 0,J 0] 156):=⟨_,rfl⟩
 have s3:=s2.box [Ju 0,J 0] 156;rw[←hB,show w.alloc (.cells [Ju 0,J 0].toArray 156)=W from hW.symm]at s3;have h1N:1<T.nodes.length:=by have:=hT.size;have:=(qO T.leaves.length hT.most).2.2;omega
 obtain⟨v,hv⟩:∃ v,T.nodes[1]? =some v:=⟨_,List.getElem?_eq_getElem h1N⟩
 have hvr:=hT.vals v (List.mem_of_getElem? hv);have hw:T.win=if v<0 then none else some (v.toNat,(T.leaves.getD v.toNat (.zero,false)).1):=by unfold To.win;rw[List.getD_eq_getElem?_getD,hv];rfl
 obtain⟨N,hN⟩:∃ N,N=T.nodes.length:=⟨_,rfl⟩
 obtain⟨n,hn⟩:∃ n,n=T.leaves.length:=⟨_,rfl⟩
 rw[←hN]at h1N;have c2:w.cell? ⟨p,2,none⟩=some (.slice (some ⟨gn,0,none⟩) N cap):=by rw[hN];exact(s2.row (k:=p) 0 rfl).cell rfl
 have lp:=(s2.row (k:=p) 0 rfl).lt;have cn:At w gn 1 (J v):=(s2.row (k:=gn) 2 rfl).cell (nN hv rest);have ln:=(s2.row (k:=gn) 2 rfl).lt;have S3:=zd s3;have HB:=zd hB;have HW:=zd hW;have Hw:=zd hw;have Hn:=zd hn;clear h s1 s2 s3 hB hW hw hv hN
 by_cases hv0:v<0
 ·have hr:T.win=none:=by rw[Hw.out,if_pos hv0]
  have Hr:=zd hr;clear hr hn
  go_enter func61,ntmps61
  go_wp2
  rw[show w.alloc (.cells #[Ju 0,J 0] 156)=W from HW.out.symm, ←HB.out];have q3:=S3.out;have z0:At W B 0 (Ju 0):=(q3.row (k:=B) 3 rfl).cell rfl;have z1:At W B 1 (J 0):=(q3.row (k:=B) 3 rfl).cell rfl;refine bodyPost_ret (v:=.tuple #[J 0,.agg #[Ju 0,J 0],.bool false]) (by simp[results,results61,go_sem,z0,z1]) rfl (Ends.mk' (by rw[Hr.out];rfl) [box B [Ju 0,J 0] 156] ?_)
  exact Scope.tX (F:=fun c=>aG (kZ p T c)) ⟨gl,gn,cap,rest⟩ (Scope.shut1 (As:=kZ p T ⟨gl,gn,cap,rest⟩) q3)
 ·obtain⟨j,rfl⟩:=Int.eq_ofNat_of_zero_le (show 0≤v by omega)
  obtain⟨x,hx⟩:∃ x,T.leaves[j]? =some x:=⟨_,List.getElem?_eq_getElem (by omega)⟩
  have hr:T.win=some (j,x.1):=by rw[Hw.out,if_neg hv0,Int.toNat_natCast,List.getD_eq_getElem?_getD,hx];rfl
  obtain⟨⟨xk,xi⟩,xb⟩:=x;have Hr:=zd hr;have jn:j<n:=by omega
  have sd:=S3.out.drew;have c0:W.drew.cell? ⟨p,0,none⟩=some (.slice (some ⟨gl,0,none⟩) n n):=by rw[hn];exact(sd.row (k:=p) 0 rfl).cell rfl
  have x0:At W.drew gl (j*3) (Ju xk):=(sd.row (k:=gl) 1 rfl).cell (iJ kR hx (j:=0) (by omega));have x1:At W.drew gl (j*3+1) (J xi):=(sd.row (k:=gl) 1 rfl).cell (iJ kR hx (j:=1) (by omega));have h0:At W.drew p 0 (.slice (some ⟨gl,0,none⟩) n n)∧At W.drew gl (j*3) (Ju xk)∧At W.drew gl (j*3+1) (J xi):=⟨c0,x0,x1⟩
  have S4:Hid (Scope S w0 W.drew ((kZ p T ⟨gl,gn,cap,rest⟩)++([box B [Ju 0,J 0] 156]++[]))):=zd sd;clear hr hx hn hvr hv0 c0 x0 x1 sd
  go_enter func61,ntmps61
  go_wp2_with fail
  rw[show w.alloc (.cells #[Ju 0,J 0] 156)=W from HW.out.symm, ←HB.out];clear c2 lp cn ln;refine aP (by kernel_rfl) ?_;generalize W.drew=V at S4 h0 ⊢
  refine aY [0,1,5,9] ?_
  repeat (refine ay _ rfl (by kernel_rfl) (fun _ _ _ h=>h) (fun w'=>by(try simp only[ag,ah,aj]);go_simp;try with_reducible rfl) ?_;try simp only[Act.put,ag,ah,aj,aF,aB,aC])
  refine aH ?_;refine bu (S:=fun w'=>At w' p 0 (.slice (some ⟨gl,0,none⟩) n n)∧At w' gl (j*3) (Ju xk)∧At w' gl (j*3+1) (J xi)) (U:=[2,3,4,6,7,8]) _ _ _ _ ?_;refine dB [2,3,4,6,7,8] ?_
  repeat (refine aN _ rfl (by kernel_rfl) (fun _ _ _ h=>h) h0 (fun w' hS=>by(try dsimp only at hS);(try simp only[ag,ah,aj]);go_simp;try with_reducible rfl) ?_;try simp only[Act.put,ag,ah,aj,aF,aB,aC])
  refine bM ?_;refine aX _ _ _ _ (fun j hj=>?_) ?_
  ·simp at hj;rcases hj with rfl|rfl|rfl|rfl|rfl|rfl<;>rfl
  have rb:=S4.out.row (k:=B) 3 rfl;obtain⟨b0,b1⟩:=rb.c2;have f0:=rb.free 0;have f1:=rb.free 1;have q1:=Scope.au S4.out 0 (Ju xk);have q2:=Scope.au q1 1 (J xi);have Q2:=zd q2;clear rb q1 q2 h0;refine af 10 (by kernel_rfl) rfl (by rfl) fun K hK=>?_
  go_simp;refine hK _ _ ?_;clear hK K
  try simp only[Act.put,ag,ah,aj,aF,aB,aC]
  refine af 11 (by kernel_rfl) rfl (by rfl) fun K hK=>?_
  go_simp;refine hK _ _ ?_;clear hK K
  try simp only[Act.put,ag,ah,aj,aF,aB,aC]
  refine wpAny_done (by kernel_rfl) ?_ _;clear b0 b1 f0 f1
  go_wp2
  have q3:=Q2.out;obtain⟨V2,hV2⟩:∃ V2,V2=(V.setCell ⟨B,0,none⟩ (Ju xk)).setCell ⟨B,1,none⟩ (J xi):=⟨_,rfl⟩
  rw[←hV2]at q3 ⊢
  have z0:At V2 B 0 (Ju xk):=(q3.row (k:=B) 3 rfl).cell rfl;have z1:At V2 B 1 (J xi):=(q3.row (k:=B) 3 rfl).cell rfl;refine bodyPost_ret (v:=.tuple #[J j,.agg #[Ju xk,J xi],.bool true]) (by simp[results,results61,go_sem,z0,z1]) rfl (Ends.mk' (by rw[Hr.out];rfl) [box B [Ju xk,J xi] 156] ?_)
  exact Scope.tX (F:=fun c=>aG (kZ p T c)) ⟨gl,gn,cap,rest⟩ (Scope.shut1 (As:=kZ p T ⟨gl,gn,cap,rest⟩) q3)
end
theorem QR {n s:Nat} (h1:1≤n) (h4:n≤4) (hs:s=1∨s=2∨s=4) (h:s<n):2*s≤oK n∧(2*s=1∨2*s=2∨2*s=4):=by
 rcases(show n=1∨n=2∨n=3∨n=4 by omega)with rfl|rfl|rfl|rfl<;>rcases hs with rfl|rfl|rfl<;>first|omega|(simp[oK])
theorem Kv {n s:Nat} (h1:1≤n) (h4:n≤4) (hs:s=1∨s=2∨s=4) (hle:s≤oK n) (h:¬ s<n):s=oK n:=by
 rcases(show n=1∨n=2∨n=3∨n=4 by omega)with rfl|rfl|rfl|rfl<;>rcases hs with rfl|rfl|rfl<;>simp_all [oK]
def yD (p:Nat) (w:World):Nat:=match w.cell? ⟨p,1,none⟩with|some (.int _ v)=>v.toNat|_=>0
section
def Ti (S:List Nat) (w0:World) (n:Nat) (As:List HA) (e:Ending) (w':World):Prop:=∃ p,e=.returned (ptr p)∧Scope S w0 w' (kD p (.new n)::As)
theorem JU {S:List Nat} {w0 w:World} {As:List HA} {n:Nat} (h1:1≤n) (h4:n≤4) (h:Scope S w0 w As):Calls prog 57 #[J n] w (Ti S w0 n As):=by
 have hmk:∀ w,(Instr.makeSlice 178 (J n) (J n)).run prog w=.ok (.slice (some ⟨w.heap.size,0,none⟩) n n) (w.alloc (.cells (recs iq (List.replicate n (It.zero,false))).toArray 191)):=by
  intro w
  rcases(show n=1∨n=2∨n=3∨n=4 by omega)with rfl|rfl|rfl|rfl
  ·kernel_rfl
  ·kernel_rfl
  ·kernel_rfl
  ·kernel_rfl
 obtain⟨i1,hi1⟩:=Option.isSome_iff_exists.1 (show(prog.info? 3).isSome=true by kernel_rfl);obtain⟨hx0,hx1,hx2⟩:=lF 3 hi1 (z:=J 0) (s:=1) (b:=8) (by kernel_rfl) (by kernel_rfl) (by kernel_rfl);have n0:(0:Int)≤(n:Int):=by omega
 have n1:(1:Int)≤(n:Int):=by omega
 have n16:(n:Int)≤16:=by omega
 have H:=zd h;clear h;obtain⟨gl,hgl⟩:∃ gl,gl=w.heap.size:=⟨_,rfl⟩
 have s1:=H.out.box (recs iq (List.replicate n (It.zero,false))) 191;have s2:=s1.box [.slice (some ⟨gl,0,none⟩) n n,J 1,dW] 180;rw[←hgl]at s2;rw[show(w.alloc (.cells (recs iq (List.replicate n (It.zero,false))).toArray 191)).heap.size=gl+1 by rw[hgl];simp]at s2;have s3:=s2.perm (List.perm_append_comm (l₁:=As++[box gl (recs iq (List.replicate n (It.zero,false))) 191]));have S3:=zd s3;have Hgl:=zd hgl;clear s1 s2 s3 hgl H
 go_enter func57,ntmps57
 go_wp2_with fail
 rw[←Hgl.out];obtain⟨p,hp⟩:∃ p,p=gl+1:=⟨_,rfl⟩
 rw[←hp];have S3':=S3.out;rw[←hp]at S3';have S4:=zd S3';clear S3 S3' hp Hgl hmk
 go_loopw [] (fun wr=>∃ s:Nat,(s=1∨s=2∨s=4)∧s≤oK n∧Scope S w0 wr ([box p [.slice (some ⟨gl,0,none⟩) n n,J s,dW] 180]++(As++[box gl (recs iq (List.replicate n (It.zero,false))) 191]))) (fun wr=>4 - yD p wr)
 case atStart=>exact⟨1,.inl rfl,by have:=(qO n h4).2.2;omega,S4.out⟩
 case round=>
  obtain⟨s,hs,hsn,hx⟩:=hrel;have rp:=hx.row (k:=p) 0 rfl;have c1:=rp.cell (j:=1) rfl;have f1:=rp.free 1;have hsz:yD p wr=s:=by unfold yD;rw[c1];simp
  by_cases hlt:s<n
  ·have t1:=Scope.au (As:=[]) hx 1 (J ((s:Int)*2))
   rw[show((s:Int)*2)=((2*s:Nat):Int) by omega]at t1;have c1':(wr.setCell ⟨p,1,none⟩ (J ((2*s:Nat):Int))).cell? ⟨p,1,none⟩=some (J ((2*s:Nat):Int)):=(t1.row (k:=p) 0 rfl).cell rfl;have hsz2:yD p (wr.setCell ⟨p,1,none⟩ (J ((2*s:Nat):Int)))=2*s:=by unfold yD;rw[c1'];exact Int.toNat_natCast _
   have Hx:=zd t1;have Hsz:=zd hsz;have Hsz2:=zd hsz2;have hs2:=QR h1 h4 hs hlt;have hlt':(s:Int)<(n:Int):=by omega
   have hs4:s≤4:=by omega
   clear hx rp t1 hsz S4 hsz2 c1'
   go_wp2
   rw[show((s:Int)*2)=((2*s:Nat):Int) by omega]
   go_roundw
   case rel=>exact⟨2*s,hs2.2,hs2.1,Hx.out⟩
   case measure=>rw[Hsz2.out,Hsz.out];omega
  ·have hst:s=oK n:=Kv h1 h4 hs hsn hlt
   have hlt':¬ (s:Int)<(n:Int):=by omega
   have Hx:=zd hx;have Hst:=zd hst;have hs4:s≤4:=by omega
   have hn:Scope S w0 wr ([aU dW 3 1 0 [],box p [.slice (some ⟨gl,0,none⟩) n n,J s,dW] 180]++(As++[box gl (recs iq (List.replicate n (It.zero,false))) 191])):=by
    obtain⟨c,fp,k1,k2⟩:=hx
    exact⟨c,fp,⟨[],fp,⟨World.ownsRow_nil _ _ _ _,rfl⟩,k1,(fun _ h=>by cases h),rfl⟩,k2⟩
   have Hn:=zd hn;clear hx rp hsz S4 f1 hst Hx hn
   go_wp2_with fail
   clear c1
   go_loopw [29] (fun a wr=>∃ (j:Nat) (oa:Option Addr) (cap:Nat),j≤2*s∧a=J j∧Scope S w0 wr ([aU (.slice oa j cap) 3 1 j (ints (List.replicate j (-1))),box p [.slice (some ⟨gl,0,none⟩) n n,J s,.slice oa j cap] 180]++(As++[box gl (recs iq (List.replicate n (It.zero,false))) 191]))) (fun a _=>2*s - (intOf a).toNat)
   case atStart=>exact⟨0,none,0,by omega,rfl,Hn.out⟩
   case round=>
    obtain⟨j,oa,cap,hj2,rfl,hx⟩:=hrel
    by_cases hj:j<2*s
    ·have c2:At wr p 2 (.slice oa j cap):=(hx.row (k:=p) 1 rfl).cell rfl
     have lp:=(hx.row (k:=p) 1 rfl).lt;have s5:Scope S w0 _ (aU (.slice oa j cap) 3 1 j (ints (List.replicate j (-1)))::box p [.slice (some ⟨gl,0,none⟩) n n,J s,.slice oa j cap] 180::((As++[box gl (recs iq (List.replicate n (It.zero,false))) 191])++[box wr.heap.size [J (-1)] 3])):=hx.box [J (-1)] 3;have S5:=zd s5;have j1:(j:Int)<2*(s:Int):=by omega
     clear hx s5
     go_wp2_with (at_builtin;go_must (refine wpList_append_lies _ rfl _ _ 26 rfl 0 3 i1 _ 1 8 underlying26 hi1 hx0 hx1 hx2 rfl (by omega) (.slice oa j cap) j (ints (List.replicate j (-1))) rfl (S5.out.owns 0 rfl) ⟨wr.heap.size,0,none⟩ 1 1 [J (-1)] rfl rfl (World.news_of_block (cs:=#[J (-1)]) (t:=3) (fr:=(0,0)) (heap_alloc_new wr _)) (by simp[Value.oneCell']) (by omega) (by unfold maxLen;omega) (by omega) (by omega) (wr.heap.size+1) (by simp) ?_);go_loud (intro gg cap' w4 own gro hat hlt4;have S6:=zd (Scope.appends S5.out own gro (hat.imp id (fun h=>h.trans (by simp))));have c3:=(S6.out.row (k:=p) 1 rfl).cell (j:=2) rfl;have f3:=(S6.out.row (k:=p) 1 rfl).free 2;clear own gro hat hlt4))
     have e1:List.replicate j (-1:Int)++[-1]=List.replicate (j+1) (-1):=(List.replicate_succ' ..).symm;have e2:ints (List.replicate j (-1:Int))++[J (-1)]=ints (List.replicate (j+1) (-1)):=by rw[←e1];simp[ints]
     have t7:=Scope.au (As:=[aU (.slice (some ⟨gg,0,none⟩) (j+1) cap') 3 1 (j+1) (ints (List.replicate j (-1))++[J (-1)])]) S6.out 2 (.slice (some ⟨gg,0,none⟩) (j+1) cap');rw[e2]at t7;have T7:=zd t7;clear t7 e1 e2 c2 c3 f3 lp
     go_roundw
     case rel=>exact⟨j+1,some ⟨gg,0,none⟩,cap',by omega,by go_num,Scope.drop (As:=_++(As++[box gl (recs iq (List.replicate n (It.zero,false))) 191])) T7.out⟩
     case measure=>simp[intOf];omega
    ·obtain rfl:j=2*s:=by omega
     have hz:0<2*s:=by omega
     obtain⟨g,cap',rest,e1,s5,e2,e3,e4⟩:=Scope.qj hx hz;have e5:oa=some ⟨g,0,none⟩∧cap=cap':=by cases e1;exact⟨rfl,rfl⟩
     obtain⟨rfl,rfl⟩:=e5;have s6:Scope S w0 wr (kZ p (.new n) ⟨gl,g,cap,rest⟩++As):=by
      have tb:wo p (.new n) ⟨gl,g,cap,rest⟩=box p [.slice (some ⟨gl,0,none⟩) n n,J s,.slice (some ⟨g,0,none⟩) (2*s) cap] 180:=by
       have e6:(To.new n).leaves.length=n:=by simp[To.new]
       have e7:(To.new n).nodes.length=2*s:=by simp[To.new,Hst.out]
       have e8:(To.new n).size=s:=by unfold To.size;rw[e7];omega
       show box _ _ _=box _ _ _
       rw[e6,e7,e8]
      have e9:(To.new n).nodes=List.replicate (2*s) (-1):=by rw[Hst.out];rfl
      show Scope S w0 wr (wo p (.new n) ⟨gl,g,cap,rest⟩::box gl (recs iq (To.new n).leaves) 191::box g (ints (To.new n).nodes++rest) 3::As)
      rw[tb,e9]
      exact(s5.front 1 rfl).perm (List.Perm.cons _ (List.perm_append_comm (l₁:=box g (ints (List.replicate (2*s) (-1))++rest) 3::As) (l₂:=[box gl (recs iq (List.replicate n (It.zero,false))) 191])))
     have S6:=zd (Scope.tX (F:=fun c=>aG (kZ p (.new n) c)) ⟨gl,g,cap,rest⟩ (Scope.shut1 (As:=kZ p (.new n) ⟨gl,g,cap,rest⟩) s6));clear s5 s6 hx
     go_wp2
     go_ret
     exact⟨p,rfl,S6.out⟩
end
end Go.Proofs.YtjnbbmgbmiggbaaGreatDoor
