/- Lemmas for TopTries' card: package wheel, second part; package shard, first part. -/
import Derived.Test.YtjnbbmgbmiggbaaGreatDoorZ06
set_option linter.unusedSimpArgs false
set_option linter.unusedVariables false
set_option maxRecDepth 20000
set_option maxHeartbeats 4000000
namespace Go.Proofs.YtjnbbmgbmiggbaaGreatDoor
open Go Go.RowKit Go.Maps Go.Proofs.Tryz
section
variable {p wd:Nat} {W:Wh}
theorem QC {id:Int} (hid:I64 id) (hn:W.keys id=none):Does prog [bY p wd W] 113 #[ptr p,J id] (.tuple #[It.zero.val,.bool false]) [bY p wd W]:=
 Does.ex (F:=fun c=>aG (dm p wd W c)) (G:=fun c=>aG (dm p wd W c)) fun c=>Does.pack fun S w0 w h=>by
 have c0:At w p 197 (.map (some c.2)):=(h.row 0 rfl).cell xC;have lp:=(h.row 0 rfl).lt;obtain⟨fp,⟨⟨f,h1,h2⟩,_⟩,_⟩:=h.get 2 rfl;obtain⟨x,hx⟩:=qy hid;have hrun:=fun(o:Obj)=>((h1.kept (Below.heap_alloc _ _ _ h1.lt):fM prog 3 (w.alloc o) c.2 f)).look_ok (t:=120) nV underlying120 (Bv _) hx
 rw[h2 id,hn]at hrun;simp only[Option.map_none,Option.getD_none,Option.isSome_none]at hrun;have H0:=zd h;clear h h1 h2 hx hn
 go_enter func113,ntmps113
 go_wp2
 exact bodyPost_ret (v:=.tuple #[.agg #[Ju 0,J 0],.bool false]) (by simp[results,results113,go_sem]) rfl (Ends.mk [box w.heap.size [Ju 0,J 0] 156] (by simpa using H0.out.box [Ju 0,J 0] 156))
theorem MP {id:Int} {k:Nat} (hid:I64 id) (hk:W.keys id=some k) (hW:Qj W) (hwd:wd≤40) (hlen:∀ n,(W.bk n).length<100000) {l b:Nat} (hlb:((W.key id none).place wd k).getD (0,0)=(l,b)):Does prog [bY p wd W] 113 #[ptr p,J id] (.tuple #[(⟨k,id⟩:It).val,.bool true]) [bY p wd ((W.key id none).lq l b ⟨k,id⟩)]:=Does.ax fun S w0 w h=>by
 obtain⟨⟨vals,mb⟩,h1⟩:=Scope.xq (F:=fun c=>aG (dm p wd W c)) h;have h2:Scope S w0 w (dm p wd W (vals,mb)):=by simpa using Scope.gU h1
 obtain⟨W1,hW1⟩:∃ W1,W1=W.key id none:=⟨_,rfl⟩
 have okW1:Qj W1:=by rw[hW1];exact hW.key id (fun x hx=>by cases hx)
 have hbk:∀ n,W1.bk n=W.bk n:=fun n=>by rw[hW1];rfl
 rw[←hW1]at hlb ⊢
 have hl3:l<3∧b<64:=by
  rcases kS wd W1 k with⟨e,_⟩|⟨l',l3,_,e⟩
  ·rw[e]at hlb;cases hlb;omega
  ·rw[e]at hlb;cases hlb;exact⟨l3,kQ _ _ _⟩
 have hk64:=hW.keys id k hk;obtain⟨B,hB⟩:∃ B,B=w.heap.size:=⟨_,rfl⟩
 obtain⟨V0,hV0⟩:∃ V0,V0=w.alloc (.cells #[Ju 0,J 0] 156):=⟨_,rfl⟩
 have h3:=h2.box [Ju 0,J 0] 156;rw[←hB,show w.alloc (.cells [Ju 0,J 0].toArray 156)=V0 from hV0.symm]at h3;have c0:At w p 197 (.map (some mb)):=(h2.row (k:=p) 0 rfl).cell xC;have lp:=(h2.row (k:=p) 0 rfl).lt;obtain⟨fp,⟨⟨f,hm,hf⟩,_⟩,_⟩:=h3.get 2 rfl;obtain⟨kx,hkx⟩:=qy hid;have hrun:=hm.look_ok (t:=120) nV underlying120 (Bv _) hkx;rw[hf id,hk,hV0]at hrun;simp only[Option.map_some,Option.getD_some,Option.isSome_some]at hrun;have hm':fM prog 3 (w.alloc (.cells #[Ju 0,J 0] 156)) mb f:=by rw[←hV0];exact hm
 have fin:∀ V1,fM prog 3 V1 mb (lI f (J id) none)→dE [mb] V0 V1→Scope S w0 V1 (dm p wd W1 (vals,mb)++[box B [Ju 0,J 0] 156]):=fun V1 m1 d1=>by
  obtain⟨fi,⟨_,rfl⟩,s6⟩:=(h3.front 2 rfl).turned;have t6:=s6 (keysA mb (upd W.keys id none)) V1 [mb] ⟨⟨_,m1,hf.put id none⟩,rfl⟩ d1 (Own.refl _ _);rw[hW1]
  exact t6.perm ((List.Perm.swap _ _ _).trans (List.Perm.cons _ (List.Perm.swap _ _ _)))
 have Fin:=zd fin;have Hm:=zd hm';have Hkx:=zd hkx;have HV0:=zd hV0;have HB:=zd hB;have Hlb:=zd hlb;have Hl3:=zd hl3;have HbkL:=zd hlen;have Hbk:=zd hbk;have Ok:=zd okW1;clear h h1 h2 h3 fin hm hm' hkx hf hk hV0 hB hlb hl3 hlen hbk okW1 hW1 hW
 go_enter func113,ntmps113
 go_wp2_with (at_delete;go_loud (refine mJ _ rfl _ _ 120 3 rfl 22 nV underlying120 mb f rfl Hm.out _ kx rfl Hkx.out ?_;intro V1 m1 d1;have T6:=zd (Fin.out V1 m1 (by rw[HV0.out];exact d1));clear m1 d1))
 have s7:=(Scope.tX (F:=fun c=>aG (dm p wd W1 c)) (vals,mb) (Scope.shut1 T6.out)).box [Ju k,J id] 156;obtain⟨C,hC⟩:∃ C,C=V1.heap.size:=⟨_,rfl⟩
 rw[←hC]at s7;have S7:=zd s7;have HC:=zd hC;clear s7 hC T6;rw[←HC.out];obtain⟨n,hnn⟩:∃ n,n=64*l+b:=⟨_,rfl⟩
 have hn192:n<192:=by have:=Hl3.out;omega
 obtain⟨ok,hok⟩:∃ ok,Pq (W1.place wd k)=.tuple #[J (l:Nat),J (b:Nat),.bool ok]:=by
  have:=Hlb.out
  cases hp:W1.place wd k with
  |none=>rw[hp]at this;cases this;exact⟨false,rfl⟩
  |some q=>rw[hp]at this;obtain⟨q1,q2⟩:=q;cases this;exact⟨true,rfl⟩
 have Hok:=zd hok;have Hnn:=zd hnn;rw[←HB.out];clear hok hnn Fin;refine((lQ k hk64 Ok.out.base hwd).at0 S7.out).mono ?_
 rintro e wq ⟨he,sq⟩
 rw[Hok.out]at he;subst he;clear S7;obtain⟨⟨vals,mb⟩,sq1⟩:=Scope.xq (F:=fun c=>aG (dm p wd W1 c)) sq;have sq2:Scope S w0 wq (dm p wd W1 (vals,mb)++[box B [Ju 0,J 0] 156,box C [Ju k,J id] 156]):=Scope.gU sq1;have s2:=(sq2.front 1 rfl).J9 hn192;have s3:Scope S w0 wq ([aU (vals n) 156 2 (W1.bk n).length (its (W1.bk n)),pF (upd vals n dW) (upd W1.bk n []),Fp p wd W1 (vals,mb),keysA mb W1.keys,box B [Ju 0,J 0] 156]++[box C (⟨k,id⟩:It).cells 156]):=s2;have cb:At wq.drew p (2+l*64+b) (vals n):=s3.drew.sO 2 rfl (nZ hn192) (by have:=Hnn.out;omega);have S3:=zd s3;obtain⟨l0,l1,b0,b1⟩:(0:Int)≤(l:Int)∧(l:Int)<3∧(0:Int)≤(b:Int)∧(b:Int)<64:=by have:=Hl3.out;omega
 clear s2 s3 sq2 sq1 sq
 go_wp2_with fail
 refine aP (by kernel_rfl) ?_;refine aY [0,1,2,13,14,15] ?_
 repeat (refine ay _ rfl (by kernel_rfl) (fun _ _ _ h=>h) (fun w'=>by(try simp only[ag,ah,aj]);go_simp;try with_reducible rfl) ?_;try simp only[Act.put,ag,ah,aj,aF,aB,aC])
 refine aH ?_;refine bu (S:=fun w'=>At w' p (2+l*64+b) (vals n)) (U:=[3,4,5,6,7,8,9,10,11]) _ _ _ _ ?_;refine dB [3,4,5,6,7,8,9,10,11] ?_
 repeat (refine aN _ rfl (by kernel_rfl) (fun _ _ _ h=>h) cb (fun w' hS=>by(try dsimp only at hS);(try simp only[ag,ah,aj]);go_simp;try with_reducible rfl) ?_;try simp only[Act.put,ag,ah,aj,aF,aB,aC])
 refine bM ?_;refine aX _ _ _ _ (fun j hj=>?_) ?_
 ·simp at hj;rcases hj with rfl|rfl|rfl|rfl|rfl|rfl|rfl|rfl|rfl<;>rfl
 refine af 12 (by kernel_rfl) rfl (by rfl) fun K hK=>?_
 go_simp;have s4:=S3.out.drew.perm (List.Perm.cons _ (List.perm_append_comm (l₁:=[pF (upd vals n dW) (upd W1.bk n []),Fp p wd W1 (vals,mb),keysA mb W1.keys,box B [Ju 0,J 0] 156]) (l₂:=[box C (⟨k,id⟩:It).cells 156])));obtain⟨F,hF⟩:∃ F,F=(W1.bk n).filter (zC ⟨k,id⟩):=⟨_,rfl⟩
 have hv:(vals n=nS∧W1.bk n=[])∨∃ g c,vals n=.slice (some ⟨g,0,none⟩) (W1.bk n).length c:=by
  rcases s4.ny with⟨h1,h2⟩|⟨g,c,h1,_⟩
  ·exact .inl ⟨h1,List.eq_nil_of_length_eq_zero h2⟩
  ·exact .inr ⟨g,c,h1⟩
 have HF:=zd hF;refine((Ri (C:=C) (x:=⟨k,id⟩) (L:=W1.bk n) (by rw[Hbk.out];exact HbkL.out n) hF hv).call (Bs:=[pF (upd vals n dW) (upd W1.bk n []),Fp p wd W1 (vals,mb),keysA mb W1.keys,box B [Ju 0,J 0] 156]) s4).mono ?_
 rintro e w4 ⟨rfl,s5⟩
 obtain⟨v',hv'⟩:∃ v',v'=cutV (vals n) F.length:=⟨_,rfl⟩
 rw[←hv']at s5 ⊢
 refine hK _ _ ?_;clear hK K hv' hv hF s4 cb S3
 try simp only[Act.put,ag,ah,aj,aF,aB,aC]
 obtain⟨oa,cap,rfl,hcap,hcap'⟩:=Scope.jh s5;have s6:Scope S w0 w4 ([box C (⟨k,id⟩:It).cells 156]++([pF (upd vals n (.slice oa F.length cap)) (upd W1.bk n F)]++([Fp p wd W1 (vals,mb)]++[keysA mb W1.keys,box B [Ju 0,J 0] 156]))):=by
  have q1:=Scope.perm (Bs:=aU (.slice oa F.length cap) 156 2 F.length (its F)::pF (upd vals n dW) (upd W1.bk n [])::box C (⟨k,id⟩:It).cells 156::[Fp p wd W1 (vals,mb),keysA mb W1.keys,box B [Ju 0,J 0] 156]) s5 (List.Perm.cons _ (List.Perm.swap _ _ _));have q2:=q1.TZ hn192 (upd_same _ _ _);rw[xx,xx]at q2
  exact q2.perm (List.Perm.swap _ _ _)
 have S6:=zd s6;have y0:At w4 p (2+l*64+b) (vals n):=s6.sO 2 rfl (nZ hn192) (by have:=Hnn.out;omega);have yf:=(s6.row (k:=p) 2 rfl).free (2+l*64+b);clear s5 s6;refine aY [16] ?_
 repeat (refine ay _ rfl (by kernel_rfl) (fun _ _ _ h=>h) (fun w'=>by(try simp only[ag,ah,aj]);go_simp;try with_reducible rfl) ?_;try simp only[Act.put,ag,ah,aj,aF,aB,aC])
 refine aH ?_;refine af 17 (by kernel_rfl) rfl (by rfl) fun K hK=>?_
 go_simp;refine hK _ _ ?_;clear hK K
 try simp only[Act.put,ag,ah,aj,aF,aB,aC]
 refine wpAny_done (by kernel_rfl) ?_ _;clear y0 yf;have t1:=Scope.au (As:=[box C (⟨k,id⟩:It).cells 156,pF (upd vals n (.slice oa F.length cap)) (upd W1.bk n F)]) (Bs:=[keysA mb W1.keys,box B [Ju 0,J 0] 156]) S6.out (2+l*64+b) (.slice oa F.length cap);rw[show 2+l*64+b=2+n by have:=Hnn.out;omega,vC hn192]at t1;rw[show 2+l*64+b=2+n by have:=Hnn.out;omega];obtain⟨w5,hw5⟩:∃ w5,w5=w4.setCell ⟨p,2+n,none⟩ (.slice oa F.length cap):=⟨_,rfl⟩
 rw[←hw5]at t1 ⊢
 have ecut:W1.cut l b ⟨k,id⟩=⟨W1.base,upd W1.bk n F,W1.mp,W1.keys⟩:=by unfold Wh.cut;rw[←Hnn.out,HF.out];rfl
 have t2:Scope S w0 w5 (dm p wd (W1.cut l b ⟨k,id⟩) (upd vals n (.slice oa F.length cap),mb)++[box B [Ju 0,J 0] 156,box C (⟨k,id⟩:It).cells 156]):=by
  rw[ecut]
  exact t1.perm ((List.perm_append_comm (l₁:=[box C (⟨k,id⟩:It).cells 156])).trans (List.Perm.swap _ _ _))
 have cb:At w5 p (2+l*64+b) (.slice oa F.length cap):=(t2.row (k:=p) 0 rfl).cell (by rw[show 2+l*64+b=2+n by have:=Hnn.out;omega,nZ hn192];simp[upd_same]);have lp:=(t2.row (k:=p) 0 rfl).lt;have hFb:((W1.cut l b ⟨k,id⟩).bk (64*l+b)).length=F.length:=by rw[ecut, ←Hnn.out];simp[upd_same]
 have Ecut:=zd ecut;have HFb:=zd hFb;have T2:=zd t2;clear t1 hw5 S6 t2 ecut hFb
 by_cases hF0:F.length=0
 ·have hF0':(F.length:Int)=0:=by omega
  have hdrop:W1.lq l b ⟨k,id⟩=(W1.cut l b ⟨k,id⟩).empty l b:=by unfold Wh.lq;rw[if_pos (by rw[HFb.out];exact hF0)]
  have t3:=zd (Scope.tX (F:=fun c=>aG (dm p wd (W1.cut l b ⟨k,id⟩) c)) (upd vals n (.slice oa F.length cap),mb) (Scope.shut1 T2.out));have Hdrop:=zd hdrop;clear T2 hdrop
  go_wp2_with fail
  refine(wW t3.out (by rw[Ecut.out];exact Ok.out.mp l) Hl3.out.1 Hl3.out.2).mono ?_
  rintro e w6 ⟨v,rfl,s8⟩
  clear cb lp t3;have S8:=zd s8;clear s8;obtain⟨X,hX⟩:∃ X,X=aU v 156 2 ((W1.cut l b ⟨k,id⟩).bk (64*l+b)).length (its ((W1.cut l b ⟨k,id⟩).bk (64*l+b))):=⟨_,rfl⟩
  obtain⟨Y,hY⟩:∃ Y,Y=bY p wd ((W1.cut l b ⟨k,id⟩).empty l b):=⟨_,rfl⟩
  have s9:=S8.out;rw[←hX, ←hY]at s9;have S9:=zd s9;have HY:=zd hY;clear S8 s9 hX hY;have rc:=S9.out.row (k:=C) 3 rfl;have e0:At w6 C 0 (Ju k):=rc.cell rfl;have e1:At w6 C 1 (J id):=rc.cell rfl;have rb:=S9.out.row (k:=B) 2 rfl;obtain⟨b0',b1'⟩:=rb.c2;have f0:=rb.free 0;have f1:=rb.free 1;have q1:=Scope.au (As:=[Y,X]) (Bs:=[box C (⟨k,id⟩:It).cells 156]) S9.out 0 (Ju k);have q2:=Scope.au (As:=[Y,X]) (Bs:=[box C (⟨k,id⟩:It).cells 156]) q1 1 (J id);have Q2:=zd q2;clear rc rb q1 q2;clear S9
  go_wp2
  obtain⟨V,hV⟩:∃ V,V=(w6.setCell ⟨B,0,none⟩ (Ju k)).setCell ⟨B,1,none⟩ (J id):=⟨_,rfl⟩
  have q3:=Q2.out;rw[←hV]at q3 ⊢
  have z0:At V B 0 (Ju k):=(q3.row (k:=B) 2 rfl).cell rfl;have z1:At V B 1 (J id):=(q3.row (k:=B) 2 rfl).cell rfl
  exact bodyPost_ret (v:=.tuple #[.agg #[Ju k,J id],.bool true]) (by simp[results,results113,go_sem,z0,z1]) rfl (Ends.mk [X,box B [Ju k,J id] 156,box C [Ju k,J id] 156] (by rw[Hdrop.out, ←HY.out];exact q3))
 ·have hF0':¬ (F.length:Int)=0:=by omega
  have hdrop:W1.lq l b ⟨k,id⟩=W1.cut l b ⟨k,id⟩:=by unfold Wh.lq;rw[if_neg (by rw[HFb.out];exact hF0)]
  have Hdrop:=zd hdrop;clear hdrop;have rc:=T2.out.row (k:=C) 4 rfl;have e0:At w5 C 0 (Ju k):=rc.cell rfl;have e1:At w5 C 1 (J id):=rc.cell rfl;have rb:=T2.out.row (k:=B) 3 rfl;obtain⟨b0',b1'⟩:=rb.c2;have f0:=rb.free 0;have f1:=rb.free 1;have q1:=Scope.au (As:=dm p wd (W1.cut l b ⟨k,id⟩) (upd vals n (.slice oa F.length cap),mb)) (Bs:=[box C (⟨k,id⟩:It).cells 156]) T2.out 0 (Ju k);have q2:=Scope.au (As:=dm p wd (W1.cut l b ⟨k,id⟩) (upd vals n (.slice oa F.length cap),mb)) (Bs:=[box C (⟨k,id⟩:It).cells 156]) q1 1 (J id);have Q2:=zd q2;clear rc rb q1 q2;clear T2
  go_wp2
  obtain⟨V,hV⟩:∃ V,V=(w5.setCell ⟨B,0,none⟩ (Ju k)).setCell ⟨B,1,none⟩ (J id):=⟨_,rfl⟩
  have q3:=Q2.out;rw[←hV]at q3 ⊢
  have z0:At V B 0 (Ju k):=(q3.row (k:=B) 3 rfl).cell rfl;have z1:At V B 1 (J id):=(q3.row (k:=B) 3 rfl).cell rfl
  exact bodyPost_ret (v:=.tuple #[.agg #[Ju k,J id],.bool true]) (by simp[results,results113,go_sem,z0,z1]) rfl (Ends.mk [box B [Ju k,J id] 156,box C [Ju k,J id] 156] (by rw[Hdrop.out];exact Scope.tX (F:=fun c=>aG (dm p wd (W1.cut l b ⟨k,id⟩) c)) (upd vals n (.slice oa F.length cap),mb) (Scope.shut1 q3)))
end
def yP (bk:Nat→List It) (N:Nat):Nat:=((List.range N).map fun n=>(bk n).length).sum
theorem pg (bk:Nat→List It) (N:Nat):yP bk (N+1)=yP bk N+(bk N).length:=by
 unfold yP;rw[List.range_succ,List.map_append,List.sum_append];simp
theorem Di (bk:Nat→List It) (i:Nat) (l:List It):∀ N,N≤i→yP (upd bk i l) N=yP bk N
 |0,_=>rfl
 |N+1,h=>by rw[pg,pg,Di bk i l N (by omega),upd_ne _ _ (by omega)]
theorem uo (bk:Nat→List It) (i:Nat) (l:List It):∀ N,i<N→yP (upd bk i l) N+(bk i).length=yP bk N+l.length
 |0,h=>by omega
 |N+1,h=>by
  rw[pg,pg]
  by_cases e:i=N
  ·subst e;rw[upd_same,Di _ _ _ _ (Nat.le_refl _)];omega
  ·have:=uo bk i l N (by omega)
   rw[upd_ne _ _ (show N≠i from fun q=>e q.symm)];omega
theorem Dw (bk:Nat→List It):∀ N i,i<N→(bk i).length≤yP bk N
 |0,i,h=>by omega
 |N+1,i,h=>by
  rw[pg]
  by_cases e:i=N
  ·subst e;omega
  ·have:=Dw bk N i (by omega);omega
structure mF (W:Wh) (m:Nat):Prop where
 ok:Qj W
 far:∀ n,192≤n→W.bk n=[]
 tot:yP W.bk 192≤m
theorem mF.len {W:Wh} {m:Nat} (h:mF W m) (n:Nat):(W.bk n).length≤m:=by
 by_cases hn:n<192
 ·exact Nat.le_trans (Dw _ _ _ hn) h.tot
 ·rw[h.far n (by omega)];exact Nat.zero_le _
theorem mF.le {W:Wh} {m m':Nat} (h:mF W m) (hm:m≤m'):mF W m':=⟨h.ok,h.far,Nat.le_trans h.tot hm⟩
theorem mF.new:mF .new 0 where
 ok:=⟨by simp[Wh.new],fun l=>by simp[Wh.new],fun n x hx=>by simp[Wh.new]at hx,fun id k h=>by simp[Wh.new]at h,fun l b _ _ h=>by simp[Wh.new]at h⟩
 far:=fun n _=>rfl
 tot:=by decide
theorem mF.key {W:Wh} {m:Nat} (h:mF W m) (id:Int) {k:Option Nat} (hk:∀ x,k=some x→x<18446744073709551616):mF (W.key id k) m:=⟨h.ok.key id hk,h.far,h.tot⟩
theorem mF.at {W:Wh} {m:Nat} (h:mF W m) (to:Nat) (ht:to<18446744073709551616):mF (W.at to) m:=⟨⟨ht,h.ok.mp,h.ok.items,h.ok.keys,h.ok.ne⟩,h.far,h.tot⟩
theorem fH.upd {bk:Nat→List It} (h:∀ n,fH (bk n)) (i:Nat) {l:List It} (hl:fH l) (n:Nat):fH (upd bk i l n):=by
 by_cases e:n=i
 ·subst e;rw[upd_same];exact hl
 ·rw[upd_ne _ _ e];exact h n
theorem Qc {mp:Nat→Nat} (h:∀ n,mp n<18446744073709551616) (i:Nat) {v:Nat} (hl:v<18446744073709551616) (n:Nat):upd mp i v n<18446744073709551616:=by
 by_cases e:n=i
 ·subst e;rw[upd_same];exact hl
 ·rw[upd_ne _ _ e];exact h n
theorem mF.add {W:Wh} {m:Nat} (h:mF W m) {l b:Nat} (hl:l<3) (hb:b<64) {x:It} (hx:okI x):mF (W.add l b x) (m+1) where
 ok:=by
  refine⟨h.ok.base,Qc h.ok.mp l ?_,fH.upd h.ok.items _ ((h.ok.items _).snoc hx),h.ok.keys,fun l' b' hl' hb' ht=>?_⟩
  ·exact Nat.or_lt_two_pow (n:=64) (h.ok.mp l) (Nat.pow_lt_pow_right (by omega) hb)
  ·simp only[Wh.add]at ht ⊢
   by_cases e:64*l'+b'=64*l+b
   ·rw[e,upd_same];simp
   ·rw[upd_ne _ _ e]
    refine h.ok.ne l' b' hl' hb' ?_
    by_cases el:l'=l
    ·subst el
     rw[upd_same,Nat.testBit_or,Bool.or_eq_true]at ht
     rcases ht with ht|ht
     ·exact ht
     ·rw[Nat.testBit_two_pow]at ht
      exact absurd (show 64*l'+b'=64*l'+b by rw[of_decide_eq_true ht]) e
    ·rwa [upd_ne _ _ el]at ht
 far:=fun n hn=>by simp only[Wh.add];rw[upd_ne _ _ (by omega)];exact h.far n hn
 tot:=by
  have:=uo W.bk (64*l+b) (W.bk (64*l+b)++[x]) 192 (by omega)
  have:=h.tot
  simp only[Wh.add]at *
  simp at *
  omega
theorem Bq (m b b':Nat) (hm:m<18446744073709551616) (hb:b<64) (hb':b'<64):(m &&& (18446744073709551615 - 2 ^ b)).testBit b'=(m.testBit b'&& !decide (b'=b)):=by
 have h1:(18446744073709551615 - 2 ^ b)=2 ^ 64 - (2 ^ b+1):=by omega
 rw[Nat.testBit_and,h1,Nat.testBit_two_pow_sub_succ (Nat.pow_lt_pow_right (by omega) hb),Nat.testBit_two_pow]
 congr 1
 by_cases e:b'=b
 ·subst e;simp
 ·simp[hb',e,show ¬ b=b' from fun q=>e q.symm]
theorem mF.empty' {W:Wh} {m:Nat} {l b:Nat} (hl:l<3) (hb:b<64) (hbase:W.base<18446744073709551616) (hmp:∀ l,W.mp l<18446744073709551616) (hit:∀ n,fH (W.bk n)) (hkeys:∀ id k,W.keys id=some k→k<18446744073709551616)
  (hne:∀ l' b',l'<3→b'<64→¬ (l'=l∧b'=b)→(W.mp l').testBit b'=true→W.bk (64*l'+b')≠ []) (hfar:∀ n,192≤n→W.bk n=[]) (ht:yP W.bk 192≤m):mF (W.empty l b) (m - (W.bk (64*l+b)).length) where
 ok:=by
  refine⟨hbase,Qc hmp l ?_,fH.upd hit _ (fun x hx=>by simp at hx),hkeys,fun l' b' hl' hb' ht=>?_⟩
  ·exact Nat.lt_of_le_of_lt Nat.and_le_left (hmp l)
  ·simp only[Wh.empty]at ht ⊢
   by_cases el:l'=l
   ·subst el
    rw[upd_same,Bq _ _ _ (hmp l') hb hb',Bool.and_eq_true]at ht;have e:b'≠b:=by simpa using ht.2
    rw[upd_ne _ _ (by omega)]
    exact hne l' b' hl' hb' (fun q=>e q.2) ht.1
   ·rw[upd_ne _ _ el]at ht
    rw[upd_ne _ _ (by omega)]
    exact hne l' b' hl' hb' (fun q=>el q.1) ht
 far:=fun n hn=>by simp only[Wh.empty];rw[upd_ne _ _ (by omega)];exact hfar n hn
 tot:=by
  have:=uo W.bk (64*l+b) [] 192 (by omega)
  simp only[Wh.empty]at *
  simp at *
  omega
theorem mF.empty {W:Wh} {m:Nat} (h:mF W m) {l b:Nat} (hl:l<3) (hb:b<64):mF (W.empty l b) (m - (W.bk (64*l+b)).length):=
 mF.empty' hl hb h.ok.base h.ok.mp h.ok.items h.ok.keys (fun l' b' h1 h2 _=>h.ok.ne l' b' h1 h2) h.far h.tot
theorem mF.put {W:Wh} {m:Nat} (h:mF W m) (wd:Nat) {x:It} (hx:okI x):mF (W.put wd x) (m+1):=by
 unfold Wh.put
 rcases kS wd W x.key with⟨e,_⟩|⟨l,l3,_,e⟩
 ·rw[e];exact h.le (by omega)
 ·rw[e];exact h.add l3 (kQ _ _ _) hx
theorem mF.spread {wd:Nat} {ys:List It} (hy:fH ys):∀ {W:Wh} {m:Nat},mF W m→mF (W.spread wd ys) (m+ys.length):=by
 induction ys with
 |nil=>intro W m h;exact h
 |cons y ys ih=>
  intro W m h
  have:=ih (fun z hz=>hy z (by simp[hz])) (h.put wd (hy y (by simp)))
  refine this.le ?_
  simp;omega
theorem mF.sink {W:Wh} {m:Nat} (h:mF W m) (wd to:Nat) {l:Nat} (hl:l<3):mF (W.sink wd to l) m:=by
 have h1:=(h.empty hl (kQ wd to l)).spread (wd:=wd) (ys:=W.bk (64*l+jv wd to l)) (h.ok.items _);have h2:(W.bk (64*l+jv wd to l)).length≤m:=h.len _
 exact h1.le (by omega)
theorem mF.move {W:Wh} {m:Nat} (h:mF W m) (wd to:Nat) (ht:to<18446744073709551616):mF (W.move wd to).1 m:=by
 unfold Wh.move
 split
 ·exact h
 ·exact(((h.at to ht).sink wd to (by omega)).sink wd to (by omega))
theorem mF.push {W:Wh} {m:Nat} (h:mF W m) (wd:Nat) {x:It} (hx:okI x):mF (W.push wd x).1 (m+1):=by
 unfold Wh.push
 split
 ·exact h.le (by omega)
 ·exact(h.key x.id (fun y hy=>by cases hy;exact hx.2)).put wd hx
theorem mF.lq {W:Wh} {m:Nat} (h:mF W m) {l b:Nat} (hl:l<3) (hb:b<64) (x:It):mF (W.lq l b x) m:=by
 have hit:∀ n,fH ((W.cut l b x).bk n):=fH.upd h.ok.items _ (fun y hy=>h.ok.items _ y ((List.mem_filter.1 hy).1));have hfar:∀ n,192≤n→(W.cut l b x).bk n=[]:=fun n hn=>by simp only[Wh.cut];rw[upd_ne _ _ (by omega)];exact h.far n hn
 have htot:yP (W.cut l b x).bk 192≤m:=by
  have h1:=uo W.bk (64*l+b) ((W.bk (64*l+b)).filter fun y=> !decide (y=x)) 192 (by omega);have h2:((W.bk (64*l+b)).filter fun y=> !decide (y=x)).length≤(W.bk (64*l+b)).length:=List.length_filter_le _ _;have h3:=h.tot;simp only[Wh.cut]
  omega
 have hne:∀ l' b',l'<3→b'<64→¬ (l'=l∧b'=b)→((W.cut l b x).mp l').testBit b'=true→(W.cut l b x).bk (64*l'+b')≠ []:=fun l' b' h1 h2 h3 ht=>by
  simp only[Wh.cut]at ht ⊢
  rw[upd_ne _ _ (by omega)]
  exact h.ok.ne l' b' h1 h2 ht
 unfold Wh.lq
 split
 ·exact(mF.empty' (W:=W.cut l b x) hl hb h.ok.base h.ok.mp hit h.ok.keys hne hfar htot).le (Nat.sub_le _ _)
 ·rename_i h0
  refine⟨⟨h.ok.base,h.ok.mp,hit,h.ok.keys,fun l' b' h1 h2 ht=>?_⟩,hfar,htot⟩
  by_cases e:l'=l∧b'=b
  ·obtain⟨rfl,rfl⟩:=e
   exact fun q=>h0 (by rw[q];rfl)
  ·exact hne l' b' h1 h2 e ht
theorem drop_at (wd:Nat) (W:Wh) (k:Nat) {l b:Nat} (h:(W.place wd k).getD (0,0)=(l,b)):l<3∧b<64:=by
 rcases kS wd W k with⟨e,_⟩|⟨l',l3,_,e⟩
 ·rw[e]at h;cases h;omega
 ·rw[e]at h;cases h;exact⟨l3,kQ _ _ _⟩
theorem mF.drop {W:Wh} {m:Nat} (h:mF W m) (wd:Nat) (id:Int):mF (W.drop wd id).1 m:=by
 unfold Wh.drop
 split
 ·exact h
 ·rename_i k hk
  obtain⟨q1,q2⟩:=drop_at wd (W.key id none) k rfl
  exact(h.key id (fun x hx=>by cases hx)).lq q1 q2 _
theorem RN {W:Wh} (h:Qj W) {x:It} (hx:W.min=some x):okI x:=by
 have key:∀ L:List It,fH L→okI (Ns L):=fun L hL=>by
  have:∀ (M:List It) (a:It),fH M→okI a→okI (M.foldl P7 a):=fun M=>by
   induction M with
   |nil=>intro a _ ha;exact ha
   |cons y M ih=>
    intro a hM ha
    refine ih _ (fun z hz=>hM z (by simp[hz])) ?_;unfold P7;split
    ·exact hM y (by simp)
    ·exact ha
  rw[KQ];refine this L _ hL ?_
  cases L with
  |nil=>exact oU
  |cons y L=>exact hL y (by simp)
 unfold Wh.min Wh.minL at hx
 by_cases h0:W.mp 0=0
 ·rw[if_pos h0]at hx
  by_cases h1:W.mp 1=0
  ·rw[if_pos h1]at hx
   by_cases h2:W.mp 2=0
   ·simp[h2]at hx
   ·simp[h2]at hx;subst hx;exact key _ (h.items _)
  ·simp[h1]at hx;subst hx;exact key _ (h.items _)
 ·simp[h0]at hx;subst hx;exact key _ (h.items _)
section
variable {p wd:Nat} {W:Wh}
theorem Ko {id:Int} (hid:I64 id) {m:Nat} (h:mF W m) (hm:m<100000) (hwd:wd≤40):Does prog [bY p wd W] 113 #[ptr p,J id] (qX (W.drop wd id).2) [bY p wd (W.drop wd id).1]:=by
 unfold Wh.drop
 cases hk:W.keys id with
 |none=>exact QC hid hk
 |some k=>exact MP hid hk h.ok hwd (fun n=>Nat.lt_of_le_of_lt (h.len n) hm) rfl
end
def sk (wd:Nat) (W:Wh) (to:Nat) (l:Nat):Wh:=if l=2 then W.at to else if l=1 then(W.at to).sink wd to 2 else((W.at to).sink wd to 2).sink wd to 1
theorem TP (wd:Nat) (W:Wh) (to:Nat) {l:Nat} (h:0<l) (h2:l≤2):sk wd W to (l - 1)=(sk wd W to l).sink wd to l:=by
 rcases(show l=1∨l=2 by omega)with rfl|rfl<;>rfl
theorem U3 {W:Wh} {m:Nat} (h:mF W m) (wd to:Nat) (ht:to<18446744073709551616) (l:Nat):mF (sk wd W to l) m:=by
 unfold sk
 split
 ·exact h.at to ht
 ·split
  ·exact(h.at to ht).sink wd to (by omega)
  ·exact((h.at to ht).sink wd to (by omega)).sink wd to (by omega)
theorem Ej (wd:Nat) (V:Wh) (ys:List It) {j:Nat} {y:It} (hy:ys[j]? =some y):V.spread wd (ys.take (j+1))=(V.spread wd (ys.take j)).put wd y:=by
 unfold Wh.spread;rw[List.take_add_one,hy]
 simp
section
variable {p wd:Nat} {W:Wh}
theorem Qb (x:It) (hx:okI x) {m:Nat} (h:mF W m) (hm:m<100000) (hwd:wd≤40):Does prog [bY p wd W] 108 #[ptr p,x.val] (.tuple #[]) [bY p wd (W.put wd x)]:=by
 unfold Wh.put
 rcases kS wd W x.key with⟨e,_⟩|⟨l,l3,_,e⟩
 ·rw[e];exact UO x hx h.ok.base hwd e
 ·rw[e];exact LG x hx h.ok hwd l3 (kQ _ _ _) e (Nat.lt_of_le_of_lt (h.len _) hm)
theorem yI (to:Nat) (ht:to<18446744073709551616) {m:Nat} (h:mF W m) (hm:m<100000) (hwd:wd≤40):Does prog [bY p wd W,bP] 114 #[ptr p,Ju to] (.bool (W.move wd to).2) [bY p wd (W.move wd to).1,bP]:=Does.ax fun S w0 w hs=>by
 have Hs:=zd hs;have HW:=zd h;clear hs h
 go_enter func114,ntmps114
 go_wp2_with fail
 refine((zX HW.out.ok (fun n=>Nat.lt_of_le_of_lt (HW.out.len n) hm)).call (Bs:=[]) Hs.out).mono ?_
 rintro e w1 ⟨he,s1⟩
 unfold qX at he;obtain⟨z,hz⟩:∃ z,z=W.min.getD .zero:=⟨_,rfl⟩
 obtain⟨is,his⟩:∃ is,is=W.min.isSome:=⟨_,rfl⟩
 rw[←hz, ←his]at he;obtain⟨zk,zi⟩:=z;subst he;have hfar:tooFar W.min to=(is&&decide (zk<to)):=by
  cases hq:W.min with
  |none=>rw[his,hq];rfl
  |some q=>rw[his,hq];rw[hq]at hz;have:zk=q.key:=congrArg It.key hz;rw[this];rfl
 have hmv:W.move wd to=if to<W.base∨(is&&decide (zk<to))=true then(W,false)else(((W.at to).sink wd to 2).sink wd to 1,true):=by unfold Wh.move;rw[hfar]
 obtain⟨X,hX⟩:∃ X,X=w1.heap.size:=⟨_,rfl⟩
 have s2:=s1.box [Ju zk,J zi] 156;rw[←hX]at s2;obtain⟨V,hV⟩:∃ V,V=w1.alloc (.cells #[Ju zk,J zi] 156):=⟨_,rfl⟩
 rw[show w1.alloc (.cells [Ju zk,J zi].toArray 156)=V from hV.symm]at s2;obtain⟨⟨vals,mb⟩,s5⟩:=Scope.xq (F:=fun c=>aG (dm p wd W c)) s1;have s6:Scope S w0 w1 (dm p wd W (vals,mb)++[bP]):=Scope.gU s5;have c0:At w1 p 0 (Ju W.base):=(s6.row (k:=p) 0 rfl).cell Bi;have lp:=(s6.row (k:=p) 0 rfl).lt;have f0:=(s6.row (k:=p) 0 rfl).free 0;have S1:=zd s6;have hb:W.base<18446744073709551616:=HW.out.ok.base;have Q4:=zd s2;have Hmv:=zd hmv;have HX:=zd hX;have HV:=zd hV;clear s1 s2 s5 s6 hmv hfar hX hV hz his Hs
 by_cases h1:to<W.base
 ·have h1':(to:Int)<(W.base:Int):=by omega
  have hr:W.move wd to=(W,false):=by rw[Hmv.out];exact if_pos (Or.inl h1)
  have Hr:=zd hr;clear hr
  go_wp2
  go_ret
  rw[←HV.out];refine Ends.mk' (by rw[Hr.out];rfl) [box X [Ju zk,J zi] 156] ?_;rw[Hr.out];exact Q4.out
 ·have h1':¬ (to:Int)<(W.base:Int):=by omega
  by_cases h2:(is&&decide (zk<to))=true
  ·have hr:W.move wd to=(W,false):=by rw[Hmv.out];exact if_pos (.inr h2)
   have Hr:=zd hr;clear hr;obtain⟨h3,h4⟩:=Bool.and_eq_true _ _▸h2;have h4:zk<to:=of_decide_eq_true h4;subst h3;have h4':(to:Int)>(zk:Int):=by omega
   clear h2
   go_wp2
   go_ret
   rw[←HV.out];refine Ends.mk' (by rw[Hr.out];rfl) [box X [Ju zk,J zi] 156] ?_;rw[Hr.out];exact Q4.out
  ·have hr:W.move wd to=(((W.at to).sink wd to 2).sink wd to 1,true):=by rw[Hmv.out];exact if_neg (fun q=>q.elim h1 h2)
   have Hr:=zd hr;clear hr;have t1:=Scope.au (As:=[]) (Bs:=[pF vals W.bk,keysA mb W.keys,bP]) S1.out 0 (Ju to);rw[Dp]at t1;obtain⟨V1,hV1⟩:∃ V1,V1=w1.setCell ⟨p,0,none⟩ (Ju to):=⟨_,rfl⟩
   rw[←hV1]at t1;have t2:Scope S w0 V1 ([bY p wd (sk wd W to 2)]++[bP]):=Scope.tX (F:=fun c=>aG (dm p wd (W.at to) c)) (vals,mb) (Scope.shut1 t1);have t3:=t2.box [Ju zk,J zi] 156;rw[show V1.heap.size=X by rw[hV1,HX.out];simp]at t3;have T3:=zd t3;have HV1:=zd hV1;clear t1 t2 t3 hV1 Hmv S1 Q4;have h5:is=false∨is=true∧¬ zk<to:=by
    cases is
    ·exact .inl rfl
    ·refine .inr ⟨rfl,fun q=>h2 ?_⟩
     simp;omega
   clear h2
   rcases h5 with rfl|⟨rfl,h5⟩
   all_goals
    go_wp2_with fail
    rw[←HV1.out]
    go_loopw [7] (fun a wr=>∃ l:Nat,l≤2∧a=J l∧Scope S w0 wr ([bY p wd (sk wd W to l)]++[bP,box X [Ju zk,J zi] 156])) (fun a _=>(intOf a).toNat)
    case atStart=>exact⟨2,by omega,rfl,T3.out⟩
    case round=>
     obtain⟨l,l2,rfl,hx⟩:=hrel
     by_cases hl:0<l
     ·have sz:(sk wd W to (l - 1))=(sk wd W to l).sink wd to l:=TP wd W to hl l2
      have ok:=U3 HW.out wd to ht l;obtain⟨V,hV⟩:∃ V,V=sk wd W to l:=⟨_,rfl⟩
      rw[←hV]at sz hx ok;obtain⟨⟨vals,mb⟩,s5⟩:=Scope.xq (F:=fun c=>aG (dm p wd V c)) hx;have s6:Scope S w0 wr (dm p wd V (vals,mb)++[bP,box X [Ju zk,J zi] 156]):=Scope.gU s5;have c1:At wr p 1 (J wd):=(s6.row (k:=p) 0 rfl).cell KJ;have lp:=(s6.row (k:=p) 0 rfl).lt;have l0:(l:Int)>0:=by omega
      have l0':¬ (l:Int)<0:=by omega
      have l3:l<3:=by omega
      have l3':¬ (l:Int)≥3:=by omega
      have bs:=wP to l (wd:Int) l3;rw[DX hwd]at bs;have Hx:=zd hx;have Bs:=zd bs;have Ok:=zd ok;have Sz:=zd sz;clear s5 s6 hx bs sz hV ok
      go_wp2_with fail
      refine(Bs.out _).mono ?_
      rintro e w2 ⟨rfl,rfl⟩
      go_wp2_with fail
      refine(wW Hx.out (Ok.out.ok.mp l) l3 (kQ wd to l)).mono ?_
      rintro e w3 ⟨v,rfl,s7⟩
      obtain⟨b,hb⟩:∃ b,b=jv wd to l:=⟨_,rfl⟩
      have okE:=Ok.out.empty l3 (kQ wd to l);have okY:=Ok.out.ok.items (64*l+jv wd to l);have lnY:(V.bk (64*l+jv wd to l)).length≤m:=Ok.out.len _;obtain⟨E,hE⟩:∃ E,E=V.empty l (jv wd to l):=⟨_,rfl⟩
      obtain⟨ys,hys⟩:∃ ys,ys=V.bk (64*l+jv wd to l):=⟨_,rfl⟩
      rw[←hE, ←hys]at s7 okE;rw[←hys]at okY lnY;have hsz:V.sink wd to l=E.spread wd ys:=by unfold Wh.sink;rw[hE,hys]
      have s8:=s7.perm (List.Perm.swap _ _ _);obtain⟨N,hN⟩:∃ N,N=ys.length:=⟨_,rfl⟩
      rw[←hN]at s8 okE lnY;obtain⟨oa,cap,rfl,hc1,hc2⟩:=s8.jh;have S8:=zd s8;have lg:N=0∨∃ g,oa=some ⟨g,0,none⟩:=by
       rcases s8.ny with⟨_,h⟩|⟨g,c,h,_⟩
       ·exact .inl h
       ·refine .inr ⟨g,?_⟩
        cases h;rfl
      have Hsz:=zd hsz;have OkE:=zd okE;have OkY:=zd okY;have HN:=zd hN;clear s7 s8 hsz okE okY hN hE hys Hx Ok
      go_wp2_with fail
      go_loopw [49] (fun a wr=>∃ j:Nat,j≤N∧a=J j∧Scope S w0 wr ([aU (.slice oa N cap) 156 2 N (its ys),bY p wd (E.spread wd (ys.take j))]++[bP,box X [Ju zk,J zi] 156])) (fun a _=>N - (intOf a).toNat)
      case atStart=>exact⟨0,by omega,rfl,S8.out⟩
      case round=>
       obtain⟨j,jN,rfl,hx⟩:=hrel;have Hx:=zd hx;clear hx
       by_cases hj:j<N
       ·obtain⟨g,rfl⟩:∃ g,oa=some ⟨g,0,none⟩:=lg.resolve_left (by omega)
        obtain⟨y,hy⟩:∃ y,ys[j]? =some y:=⟨_,List.getElem?_eq_getElem (by rw[←HN.out];exact hj)⟩
        have hst:=Ej wd E ys hy;have okj:okI y:=OkY.out y (List.mem_of_getElem? hy);have okV:=(OkE.out.spread (wd:=wd) (ys:=ys.take j) (OkY.out.take j)).le (m':=m) (by rw[List.length_take];omega);obtain⟨e0,e1⟩:=vg _ j y hy;have y0:At wr g (j*2) (Ju y.key):=dw (Hx.out.owns 0 rfl) rfl e0;have y1:At wr g (j*2+1) (J y.id):=dw (Hx.out.owns 0 rfl) rfl e1;have j0:(0:Int)≤(j:Int):=by omega
        have j1:(j:Int)<(N:Int):=by omega
        have t1:=Hx.out.box y.cells 156;have T1:=zd t1;have Hst:=zd hst;have OkV:=zd okV;clear t1 hst okV hy e0 e1
        go_wp2_with fail
        refine((Qb y okj OkV.out hm hwd).fC T1.out).mono ?_
        rintro e w4 ⟨rfl,s9⟩
        have S9:=zd s9;clear s9 y0 y1 T1
        go_wp2
        go_roundw
        case rel=>exact⟨j+1,by omega,by go_num,by rw[Hst.out];exact S9.out.drop⟩
        case measure=>simp[intOf];omega
       ·obtain rfl:j=N:=by omega
        have hz:ys.take j=ys:=by rw[HN.out,List.take_length]
        rw[hz, ←Hsz.out, ←Sz.out]at Hx;have q1:=Hx.out.drop_left (As:=[aU (.slice oa j cap) 156 2 j (its ys)]);have Q1:=zd q1;clear Hx hz q1
        go_wp2
        go_roundw
        case rel=>exact⟨l - 1,by omega,by go_num,Q1.out⟩
        case measure=>simp[intOf];omega
     ·obtain rfl:l=0:=by omega
      have Hx:=zd hx;clear hx
      go_wp2
      go_ret
      refine Ends.mk' (by rw[Hr.out];rfl) [box X [Ju zk,J zi] 156] ?_;rw[Hr.out];exact Hx.out
end
section
theorem Ip (a b:Value):(Tryz.zeroCells203.setIfInBounds 1 a).setIfInBounds 197 b=([Ju 0,a]++(List.replicate 192 dW++[Ju 0,Ju 0,Ju 0,b])).toArray:=rfl
def P8 (S:List Nat) (w0:World) (wd:Nat) (As:List HA) (e:Ending) (w':World):Prop:=∃ p,e=.returned (ptr p)∧Scope S w0 w' (bY p wd .new::As)
theorem Jt (wd mb:Nat):iW 0 wd (fun _=>dW) (fun _=>0) mb=[Ju 0,J wd]++(List.replicate 192 dW++[Ju 0,Ju 0,Ju 0,.map (some mb)]):=by
 unfold iW
 congr 2
theorem Scope.Sl {S:List Nat} {w0 w:World} {As:List HA} (h:Scope S w0 w As):Scope S w0 w (pF (fun _=>dW) (fun _=>[])::As):=by
 obtain⟨c,fp,k1,k2⟩:=h;refine⟨c,fp,⟨[],fp,⟨fun i hi=>World.ownsRow_nil _ _ _ _,fun i j g _ _ h=>by simp[Value.ownBlock]at h,fun k=>?_⟩,k1,(fun _ h=>by cases h),rfl⟩,k2⟩
 simp[Value.ownBlock]
theorem GG {S:List Nat} {w0 w:World} {As:List HA} (wd:Int) (h:Scope S w0 w As):Calls prog 75 #[J wd] w (P8 S w0 (hw wd) As):=by
 have hmm:= @run_makeMap prog;have H:=zd h;clear h
 go_enter func75,ntmps75
 go_wp2_with fail
 refine(rf wd _).mono ?_
 rintro e w1 ⟨rfl,rfl⟩
 go_wp2
 go_ret
 rw[Ip, ←Jt];have s1:Scope S w0 (w.alloc (.map #[] 0)) ([keysA w.heap.size (fun _=>none)]++As):=H.out.joinL (g:=[w.heap.size]) (dh (A:=keysA w.heap.size (fun _=>none)) ⟨⟨_,fM.made _ _ w,fun id=>rfl⟩,rfl⟩) ((dE.refl _ _).alloc _) (by simp);have s2:=s1.box (iW 0 (hw wd) (fun _=>dW) (fun _=>0) w.heap.size) 203;rw[show(w.alloc (.map #[] 0)).heap.size=w.heap.size+1 by simp]at s2;refine⟨w.heap.size+1,rfl,?_⟩;have s3:=(s2.perm (List.perm_append_comm (l₁:=[keysA w.heap.size (fun _=>none)]++As) (l₂:=[box (w.heap.size+1) (iW 0 (hw wd) (fun _=>dW) (fun _=>0) w.heap.size) 203]))).Sl;have s4:=s3.perm (List.Perm.swap _ _ _)
 exact Scope.tX (F:=fun c=>aG (dm (w.heap.size+1) (hw wd) .new c)) ((fun _=>dW),w.heap.size) (Scope.shut1 (As:=dm (w.heap.size+1) (hw wd) .new ((fun _=>dW),w.heap.size)) (Bs:=As) s4)
end
structure pG (S:Sh) (m:Nat):Prop where
 w:mF S.w (m - S.far.length)
 le:S.far.length≤m
 far:fH S.far
theorem pG.new:pG .new 0:=⟨mF.new,Nat.le_refl _,fun x hx=>by cases hx⟩
theorem pG.le' {S:Sh} {m m':Nat} (h:pG S m) (hm:m≤m'):pG S m':=⟨h.w.le (by omega),Nat.le_trans h.le hm,h.far⟩
theorem pG.ww {S:Sh} {m:Nat} (h:pG S m):mF S.w m:=h.w.le (Nat.sub_le _ _)
theorem fH.hpush {l:List It} (h:fH l) {x:It} (hx:okI x):fH (hpush l x).1:=by
 unfold Go.Proofs.YtjnbbmgbmiggbaaGreatDoor.hpush
 split
 ·exact h
 ·exact(h.snoc hx).up _
theorem Bo (l:List It) (x:It):(hpush l x).1.length≤l.length+1:=by
 unfold hpush
 split
 ·exact Nat.le_succ _
 ·rw[nH];simp
theorem fH.hdrop {l:List It} (h:fH l) (id:Int):fH (hdrop l id):=by
 unfold Go.Proofs.YtjnbbmgbmiggbaaGreatDoor.hdrop
 split
 ·exact h
 ·exact h.lq _
theorem CU (l:List It) (id:Int):(hdrop l id).length≤l.length:=by
 unfold hdrop
 split
 ·exact Nat.le_refl _
 ·rw[kX];exact Nat.sub_le _ _
theorem pG.push {S:Sh} {m:Nat} (h:pG S m) (wd:Nat) {x:It} (hx:okI x):pG (S.push wd x).1 (m+1):=by
 have hl:=h.le;unfold Sh.push
 split
 ·exact h.le' (by omega)
 ·split
  ·have:=Bo S.far x
   exact⟨h.w.le (by simp only;omega),by simp only;omega,h.far.hpush hx⟩
  ·exact⟨(h.w.push wd hx).le (by simp only;omega),by simp only;omega,h.far⟩
theorem pG.over {wd:Nat}:∀ {f:Nat} {S:Sh} {m:Nat},pG S m→pG (Sh.over wd f S) m
 |0,_,_,h=>h
 |f+1,S,m,h=>by
  unfold Sh.over
  cases hq:S.far with
  |nil=>exact h
  |cons x l=>
   simp only[List.head?_cons]
   split
   ·refine pG.over ?_
    have hl:=h.le;have h1:(gu S.far 0).length=S.far.length - 1:=kX _ _;have h2:0<S.far.length:=by rw[hq];simp
    rw[←hq]
    exact⟨(h.w.push wd (h.far x (by rw[hq];simp))).le (by simp only;omega),by simp only;omega,h.far.lq _⟩
   ·exact h
theorem pG.drop {S:Sh} {m:Nat} (h:pG S m) (wd:Nat) (id:Int):pG (S.drop wd id) m:=by
 have hl:=h.le;unfold Sh.drop
 split
 ·have:=CU S.far id
  exact⟨h.w.le (by simp only;omega),by simp only;omega,h.far.hdrop id⟩
 ·exact⟨h.w.drop wd id,h.le,h.far⟩
theorem pG.move {S:Sh} {m:Nat} (h:pG S m) (wd to:Nat) (ht:to<18446744073709551616):pG (S.move wd to).1 m:=by
 unfold Sh.move
 split
 ·exact h
 ·exact pG.over ⟨h.w.move wd to ht,h.le,h.far⟩
theorem uK {S:Sh} {m:Nat} (h:pG S m) {x:It} (hx:S.min=some x):okI x:=by
 have h1:∀ y,S.far.head? =some y→okI y:=fun y hy=>by
  cases hq:S.far with
  |nil=>rw[hq]at hy;cases hy
  |cons z l=>rw[hq]at hy;cases hy;exact h.far y (by rw[hq];simp)
 unfold Sh.min min2 at hx
 cases h2:S.w.min with
 |none=>rw[h2]at hx;exact h1 x hx
 |some y=>
  rw[h2]at hx;have h3:=RN h.w.ok h2
  cases h4:S.far.head? with
  |none=>rw[h4]at hx;cases hx;exact h3
  |some z=>
   rw[h4]at hx
   simp only at hx
   split at hx
   ·cases hx;exact h1 _ h4
   ·cases hx;exact h3
theorem pG.pop {S:Sh} {m:Nat} (h:pG S m) (wd:Nat):pG (S.pop wd).1 m:=by
 unfold Sh.pop
 split
 ·exact h
 ·rename_i x hx
  exact(h.drop wd x.id).move wd x.key (uK h hx).2
@[reducible] def CY (p wd:Nat) (S:Sh) (c:Nat×Nat):List HA:=[box p [ptr c.1,ptr c.2,J wd] 186,bY c.1 wd S.w,dY c.2 S.far]
@[reducible] def dF (p wd:Nat) (S:Sh):HA:=uk fun c=>aG (CY p wd S c)
section
variable {p wd:Nat} {Z:Sh} {S:List Nat} {w0 w:World} {Bs:List HA}
theorem Scope.kL (h:Scope S w0 w (dF p wd Z::Bs)):∃ pw ph,Scope S w0 w (Go.Proofs.YtjnbbmgbmiggbaaGreatDoor.box p [ptr pw,ptr ph,J wd] 186::bY pw wd Z.w::dY ph Z.far::Bs):=by
 obtain⟨⟨pw,ph⟩,s1⟩:=Scope.xq (F:=fun c=>aG (CY p wd Z c)) h
 exact⟨pw,ph,Scope.gU s1⟩
theorem Scope.gI {pw ph:Nat} (h:Scope S w0 w (Go.Proofs.YtjnbbmgbmiggbaaGreatDoor.box p [ptr pw,ptr ph,J wd] 186::bY pw wd Z.w::dY ph Z.far::Bs)):Scope S w0 w (dF p wd Z::Bs):=
 Scope.tX (F:=fun c=>aG (CY p wd Z c)) (pw,ph) (Scope.shut1 (As:=CY p wd Z (pw,ph)) h)
theorem Does.at2 {P:Program} {A A' X Y:HA} {f:FuncId} {args:Array Value} {r:Value} (d:Does P [A] f args r [A']) (h:Scope S w0 w (X::Y::A::Bs)):Calls P f args w fun e w'=>e=.returned r∧Scope S w0 w' (X::Y::A'::Bs):=
 (d.at0 (Bs:=X::Y::Bs) (h.perm ((List.Perm.cons _ (List.Perm.swap _ _ _)).trans (List.Perm.swap _ _ _)))).mono fun _ _ ⟨h1,h2⟩=>⟨h1,h2.perm ((List.Perm.swap _ _ _).trans (List.Perm.cons _ (List.Perm.swap _ _ _)))⟩
theorem Does.two {P:Program} {A A' B B':HA} {As:List HA} {f:FuncId} {args:Array Value} {r:Value} (d:Does P [A,B] f args r [A',B']) (i j:Nat) (hi:As[i]? =some A) (hj:(As.eraseIdx i)[j]? =some B) (h:Scope S w0 w As):
  Calls P f args w fun e w'=>e=.returned r∧Scope S w0 w' (A'::B'::(As.eraseIdx i).eraseIdx j):=by
 have h1:=h.front i hi;have p2:(A::As.eraseIdx i).Perm (A::B::(As.eraseIdx i).eraseIdx j):=List.Perm.cons _ (jF j _ _ hj)
 exact d.call (As:=[A,B]) (As':=[A',B']) (Bs:=(As.eraseIdx i).eraseIdx j) (h1.perm p2)
theorem IU:Does prog [dF p wd Z] 78 #[ptr p] (Ju Z.w.base) [dF p wd Z]:=Does.ax fun S w0 w h=>by
 obtain⟨pw,ph,s⟩:=h.kL;have c0:At w p 0 (ptr pw):=(s.row (k:=p) 0 rfl).cell rfl;have H:=zd s;clear h s
 go_enter func78,ntmps78
 go_wp2_with fail
 refine(GU.fC H.out).mono ?_
 rintro e w1 ⟨rfl,s1⟩
 have S1:=zd s1;clear s1
 go_wp2
 go_ret
 exact Ends.mk [] S1.out.gI
theorem NR (id:Int) (hid:I64 id):Does prog [dF p wd Z] 79 #[ptr p,J id] (.bool (Z.has id)) [dF p wd Z]:=Does.ax fun S w0 w h=>by
 obtain⟨pw,ph,s⟩:=h.kL;have c0:At w p 0 (ptr pw):=(s.row (k:=p) 0 rfl).cell rfl;have H:=zd s;obtain⟨b,hb⟩:∃ b,Z.has id=b:=⟨_,rfl⟩
 have Hb:=zd hb;rw[hb];clear h s hb
 go_enter func79,ntmps79
 go_wp2_with fail
 refine((vF id hid).fC H.out).mono ?_
 rintro e w1 ⟨he,s1⟩
 obtain⟨b1,hb1⟩:∃ b1,Z.w.has id=b1:=⟨_,rfl⟩
 rw[hb1]at he;subst he;have c1:At w1 p 1 (ptr ph):=(s1.row (k:=p) 0 rfl).cell rfl;have S1:=zd s1;have Hb1:=zd hb1;clear s1 hb1 H
 cases b1
 ·go_wp2_with fail
  refine((rM id hid).at2 S1.out).mono ?_
  rintro e w2 ⟨rfl,s2⟩
  have hq:hhas Z.far id=b:=by rw[←Hb.out];unfold Sh.has;rw[Hb1.out];rfl
  rw[hq];have S2:=zd s2;clear s2 hq
  go_wp2
  go_ret
  exact Ends.mk [] S2.out.gI
 ·have hq:b=true:=by rw[←Hb.out];unfold Sh.has;rw[Hb1.out];rfl
  subst hq
  go_wp2
  go_ret
  exact Ends.mk [] S1.out.gI
end
section
variable {p wd:Nat} {Z:Sh} {S:List Nat} {w0 w:World} {Bs:List HA}
theorem Does.nth {P:Program} {A A':HA} {As:List HA} {f:FuncId} {args:Array Value} {r:Value} (d:Does P [A] f args r [A']) (i:Nat) (hi:As[i]? =some A) (h:Scope S w0 w As):
  Calls P f args w fun e w'=>e=.returned r∧Scope S w0 w' (A'::As.eraseIdx i):=d.at0 (h.front i hi)
theorem vJ (l:List It):qX l.head? =.tuple #[(l.headD .zero).val,.bool (decide (0<l.length))]:=by cases l<;>rfl
theorem jE (x:Option It):∃ k i b,qX x=.tuple #[.agg #[Ju (k:Nat),J i],.bool b]∧(b=true→x=some ⟨k,i⟩)∧(b=false→x=none∧k=0∧i=0):=by
 cases x with
 |none=>exact⟨0,0,false,rfl,fun h=>(by cases h),fun _=>⟨rfl,rfl,rfl⟩⟩
 |some x=>exact⟨x.key,x.id,true,rfl,fun _=>rfl,fun h=>by cases h⟩
theorem Dl {ph pw:Nat} {V:World} {Js:List HA} (h:Scope S w0 V ([dY ph Z.far,bY pw wd Z.w,bP,Go.Proofs.YtjnbbmgbmiggbaaGreatDoor.box p [ptr pw,ptr ph,J wd] 186]++Js)):Scope S w0 V ([dF p wd Z,bP]++Js):=
 Scope.gI ((h.front 1 rfl).front 3 rfl)
theorem vO {m:Nat} (hZ:pG Z m) (hm:m<100000):Does prog [dF p wd Z,bP] 82 #[ptr p] (qX Z.min) [dF p wd Z,bP]:=Does.ax fun S w0 w h=>by
 obtain⟨pw,ph,s⟩:=h.kL;obtain⟨B,hB⟩:∃ B,B=w.heap.size:=⟨_,rfl⟩
 have s1:=s.box [Ju 0,J 0] 156;rw[←hB]at s1;have c0:At w p 0 (ptr pw):=(s.row (k:=p) 0 rfl).cell rfl;have lp:=(s.row (k:=p) 0 rfl).lt;have H:=zd s1;have HB:=zd hB;have HZ:=zd hZ;clear h s s1 hB hZ
 go_enter func82,ntmps82
 go_wp2_with fail
 rw[←HB.out];refine(Does.two (zX HZ.out.ww.ok (fun n=>Nat.lt_of_le_of_lt (HZ.out.ww.len n) hm)) 1 2 rfl rfl H.out).mono ?_
 rintro e w1 ⟨he,s2⟩
 obtain⟨xk,xi,is,hx,hx1,hx0⟩:=jE Z.w.min;rw[hx]at he;subst he;obtain⟨X,hX⟩:∃ X,X=w1.heap.size:=⟨_,rfl⟩
 have s3:=s2.box [Ju xk,J xi] 156;rw[←hX]at s3;have c1:At w1 p 1 (ptr ph):=(s2.row (k:=p) 2 rfl).cell rfl;have lp1:=(s2.row (k:=p) 2 rfl).lt;have S3:=zd s3;have HX:=zd hX;have Hx1:=zd hx1;have Hx0:=zd hx0;clear s2 s3 H hX c0 lp hx hx1 hx0
 go_wp2_with fail
 rw[←HX.out];refine(Does.nth oN 3 rfl S3.out).mono ?_
 rintro e w2 ⟨he,s4⟩
 rw[←vJ]at he;obtain⟨yk,yi,has,hy,hy1,hy0⟩:=jE Z.far.head?;rw[hy]at he;subst he;obtain⟨Y,hY⟩:∃ Y,Y=w2.heap.size:=⟨_,rfl⟩
 have s5:=s4.box [Ju yk,J yi] 156;rw[←hY]at s5;have s6:Scope S w0 w2 ([dY ph Z.far,bY pw wd Z.w,bP,Go.Proofs.YtjnbbmgbmiggbaaGreatDoor.box p [ptr pw,ptr ph,J wd] 186]++([Go.Proofs.YtjnbbmgbmiggbaaGreatDoor.box B [Ju 0,J 0] 156]++[Go.Proofs.YtjnbbmgbmiggbaaGreatDoor.box X [Ju xk,J xi] 156])):=s4;have rb:=s6.row (k:=B) 4 rfl;have rx:=s6.row (k:=X) 5 rfl;obtain⟨b0,b1⟩:=rb.c2;have f0:=rb.free 0;have f1:=rb.free 1;have bl:=rb.lt;obtain⟨x0,x1⟩:=rx.c2;have xl:=rx.lt;have fin:∀ (k:Nat) (i:Int),Scope S w0 (((w2.setCell ⟨B,0,none⟩ (Ju k)).setCell ⟨B,1,none⟩ (J i)).alloc (.cells #[Ju yk,J yi] 156)) ([dF p wd Z,bP]++[Go.Proofs.YtjnbbmgbmiggbaaGreatDoor.box B [Ju k,J i] 156,Go.Proofs.YtjnbbmgbmiggbaaGreatDoor.box X [Ju xk,J xi] 156,Go.Proofs.YtjnbbmgbmiggbaaGreatDoor.box Y [Ju yk,J yi] 156]):=fun k i=>by
  have q1:=Scope.au s6 0 (Ju k);have q2:=Scope.au q1 1 (J i);have q3:=q2.box [Ju yk,J yi] 156;rw[show((w2.setCell ⟨B,0,none⟩ (Ju k)).setCell ⟨B,1,none⟩ (J i)).heap.size=Y by rw[hY];simp]at q3
  exact Dl q3
 have Fin:=zd fin;have S5:=zd s5;have Hy1:=zd hy1;have Hy0:=zd hy0;have HY:=zd hY;clear s4 s5 s6 rb rx fin hy hy1 hy0 hY S3 c1
 cases is
 ·
  obtain⟨h1,rfl,rfl⟩:=Hx0.out rfl;have hr:qX Z.min=.tuple #[.agg #[Ju yk,J yi],.bool has]:=by
   unfold Sh.min min2;rw[h1]
   cases has
   ·obtain⟨h2,rfl,rfl⟩:=Hy0.out rfl
    rw[h2];rfl
   ·rw[Hy1.out rfl];rfl
  have Hr:=zd hr;clear hr h1
  go_wp2
  have q3:=Fin.out yk yi;obtain⟨V,hV⟩:∃ V,V=((w2.setCell ⟨B,0,none⟩ (Ju yk)).setCell ⟨B,1,none⟩ (J yi)).alloc (.cells #[Ju yk,J yi] 156):=⟨_,rfl⟩
  rw[←hV]at q3 ⊢
  have z0:At V B 0 (Ju yk):=(q3.row (k:=B) 2 rfl).cell rfl;have z1:At V B 1 (J yi):=(q3.row (k:=B) 2 rfl).cell rfl
  exact bodyPost_ret (v:=.tuple #[.agg #[Ju yk,J yi],.bool has]) (by simp[results,results82,go_sem,z0,z1]) rfl (Ends.mk' Hr.out.symm _ q3)
 ·have h1:=Hx1.out rfl
  cases has
  ·have h2:=(Hy0.out rfl).1
   have hr:qX Z.min=.tuple #[.agg #[Ju xk,J xi],.bool true]:=by unfold Sh.min min2;rw[h1,h2];rfl
   have Hr:=zd hr;clear hr h1 h2
   go_wp2
   have q3:=Fin.out xk xi;obtain⟨V,hV⟩:∃ V,V=((w2.setCell ⟨B,0,none⟩ (Ju xk)).setCell ⟨B,1,none⟩ (J xi)).alloc (.cells #[Ju yk,J yi] 156):=⟨_,rfl⟩
   rw[←hV]at q3 ⊢
   have z0:At V B 0 (Ju xk):=(q3.row (k:=B) 2 rfl).cell rfl;have z1:At V B 1 (J xi):=(q3.row (k:=B) 2 rfl).cell rfl
   exact bodyPost_ret (v:=.tuple #[.agg #[Ju xk,J xi],.bool true]) (by simp[results,results82,go_sem,z0,z1]) rfl (Ends.mk' Hr.out.symm _ q3)
  ·have h2:=Hy1.out rfl
   have hm2:Z.min=if ahead ⟨yk,yi⟩ ⟨xk,xi⟩=true then some ⟨yk,yi⟩else some ⟨xk,xi⟩:=by unfold Sh.min min2;rw[h1,h2]
   obtain⟨bb,hbb⟩:∃ bb,ahead ⟨yk,yi⟩ ⟨xk,xi⟩=bb:=⟨_,rfl⟩
   rw[hbb]at hm2;have Hm2:=zd hm2;have Hbb:=zd hbb;clear hm2 hbb h1 h2 Fin
   go_wp2_with fail
   have s5:=S5.out;refine((l9 ⟨yk,yi⟩ ⟨xk,xi⟩).at s5).mono ?_
   rintro e wq ⟨he,sq⟩
   rw[Hbb.out]at he;subst he;have s6:Scope S w0 wq ([dY ph Z.far,bY pw wd Z.w,bP,Go.Proofs.YtjnbbmgbmiggbaaGreatDoor.box p [ptr pw,ptr ph,J wd] 186]++([Go.Proofs.YtjnbbmgbmiggbaaGreatDoor.box B [Ju 0,J 0] 156]++[Go.Proofs.YtjnbbmgbmiggbaaGreatDoor.box X [Ju xk,J xi] 156,Go.Proofs.YtjnbbmgbmiggbaaGreatDoor.box Y [Ju yk,J yi] 156])):=sq;rw[HY.out]at s6;have rb:=s6.row (k:=B) 4 rfl;have rx:=s6.row (k:=X) 5 rfl;have ry:=s6.row (k:=w2.heap.size) 6 rfl;obtain⟨b0,b1⟩:=rb.c2;have f0:=rb.free 0;have f1:=rb.free 1;obtain⟨x0,x1⟩:=rx.c2;obtain⟨y0,y1⟩:=ry.c2;have fin2:∀ (k:Nat) (i:Int),Scope S w0 ((wq.setCell ⟨B,0,none⟩ (Ju k)).setCell ⟨B,1,none⟩ (J i)) ([dF p wd Z,bP]++[Go.Proofs.YtjnbbmgbmiggbaaGreatDoor.box B [Ju k,J i] 156,Go.Proofs.YtjnbbmgbmiggbaaGreatDoor.box X [Ju xk,J xi] 156,Go.Proofs.YtjnbbmgbmiggbaaGreatDoor.box w2.heap.size [Ju yk,J yi] 156]):=fun k i=>by
    have q1:=Scope.au s6 0 (Ju k);have q2:=Scope.au q1 1 (J i)
    exact Dl q2
   have Fin2:=zd fin2;clear s5 s6 sq rb rx ry fin2
   cases bb
   ·have hr:qX Z.min=.tuple #[.agg #[Ju xk,J xi],.bool true]:=by rw[Hm2.out];rfl
    have Hr:=zd hr;clear hr y0 y1
    go_wp2
    have q3:=Fin2.out xk xi;obtain⟨V,hV⟩:∃ V,V=((wq.setCell ⟨B,0,none⟩ (Ju xk)).setCell ⟨B,1,none⟩ (J xi)):=⟨_,rfl⟩
    rw[←hV]at q3 ⊢
    have z0:At V B 0 (Ju xk):=(q3.row (k:=B) 2 rfl).cell rfl;have z1:At V B 1 (J xi):=(q3.row (k:=B) 2 rfl).cell rfl
    exact bodyPost_ret (v:=.tuple #[.agg #[Ju xk,J xi],.bool true]) (by simp[results,results82,go_sem,z0,z1]) rfl (Ends.mk' Hr.out.symm _ q3)
   ·have hr:qX Z.min=.tuple #[.agg #[Ju yk,J yi],.bool true]:=by rw[Hm2.out];rfl
    have Hr:=zd hr;clear hr x0 x1
    go_wp2
    have q3:=Fin2.out yk yi;obtain⟨V,hV⟩:∃ V,V=((wq.setCell ⟨B,0,none⟩ (Ju yk)).setCell ⟨B,1,none⟩ (J yi)):=⟨_,rfl⟩
    rw[←hV]at q3 ⊢
    have z0:At V B 0 (Ju yk):=(q3.row (k:=B) 2 rfl).cell rfl;have z1:At V B 1 (J yi):=(q3.row (k:=B) 2 rfl).cell rfl
    exact bodyPost_ret (v:=.tuple #[.agg #[Ju yk,J yi],.bool true]) (by simp[results,results82,go_sem,z0,z1]) rfl (Ends.mk' Hr.out.symm _ q3)
end
def Ec (Z:Sh) (wd:Nat) (id:Int):Value:=if hhas Z.far id=true then .tuple #[(AV Z.far id).val,.bool true]else qX (Z.w.drop wd id).2
section
variable {p wd:Nat} {Z:Sh} {S:List Nat} {w0 w:World} {Bs:List HA}
theorem Jd {id:Int} (hid:I64 id) {m:Nat} (hZ:pG Z m) (hm:m<100000) (hwd:wd≤40):Does prog [dF p wd Z] 85 #[ptr p,J id] (Ec Z wd id) [dF p wd (Z.drop wd id)]:=Does.ax fun S w0 w h=>by
 obtain⟨pw,ph,s⟩:=h.kL;obtain⟨B,hB⟩:∃ B,B=w.heap.size:=⟨_,rfl⟩
 have s1:=s.box [Ju 0,J 0] 156;rw[←hB]at s1;have c0:At w p 1 (ptr ph):=(s.row (k:=p) 0 rfl).cell rfl;have lp:=(s.row (k:=p) 0 rfl).lt;have H:=zd s1;have HB:=zd hB;have HZ:=zd hZ;clear h s s1 hB hZ
 go_enter func85,ntmps85
 go_wp2_with fail
 rw[←HB.out];refine(Does.nth (rM id hid) 2 rfl H.out).mono ?_
 rintro e w1 ⟨he,s2⟩
 obtain⟨b,hb⟩:∃ b,hhas Z.far id=b:=⟨_,rfl⟩
 rw[hb]at he;subst he;have c1:At w1 p 1 (ptr ph):=(s2.row (k:=p) 1 rfl).cell rfl;have c2:At w1 p 0 (ptr pw):=(s2.row (k:=p) 1 rfl).cell rfl;have S2:=zd s2;have Hb:=zd hb;clear s2 hb H
 cases b
 ·have hr:Ec Z wd id=qX (Z.w.drop wd id).2:=by unfold Ec;rw[if_neg (by rw[Hb.out];simp)]
  have hd:Z.drop wd id=⟨(Z.w.drop wd id).1,Z.far⟩:=by unfold Sh.drop;rw[if_neg (by rw[Hb.out];simp)]
  obtain⟨k,i,ok,hv,_,_⟩:=jE (Z.w.drop wd id).2;have Hr:=zd (hr.trans hv);have Hd:=zd hd;have Hv:=zd hv;clear hr hd hv
  go_wp2_with fail
  refine(Does.nth (Ko hid HZ.out.ww hm hwd) 2 rfl S2.out).mono ?_
  rintro e w2 ⟨he,s3⟩
  rw[Hv.out]at he;subst he;have rb:=s3.row (k:=B) 3 rfl;obtain⟨b0,b1⟩:=rb.c2;have f0:=rb.free 0;have f1:=rb.free 1;have q1:=Scope.au (As:=[bY pw wd (Z.w.drop wd id).1,dY ph Z.far,Go.Proofs.YtjnbbmgbmiggbaaGreatDoor.box p [ptr pw,ptr ph,J wd] 186]) (Bs:=[]) s3 0 (Ju k);have q2:=Scope.au (As:=[bY pw wd (Z.w.drop wd id).1,dY ph Z.far,Go.Proofs.YtjnbbmgbmiggbaaGreatDoor.box p [ptr pw,ptr ph,J wd] 186]) (Bs:=[]) q1 1 (J i);have Q2:=zd q2;clear s3 rb q1 q2 S2 c1 c2
  go_wp2
  have q3:=Q2.out;obtain⟨V,hV⟩:∃ V,V=(w2.setCell ⟨B,0,none⟩ (Ju k)).setCell ⟨B,1,none⟩ (J i):=⟨_,rfl⟩
  rw[←hV]at q3 ⊢
  have z0:At V B 0 (Ju k):=(q3.row (k:=B) 3 rfl).cell rfl;have z1:At V B 1 (J i):=(q3.row (k:=B) 3 rfl).cell rfl;have q4:=Scope.gI (Z:=⟨(Z.w.drop wd id).1,Z.far⟩) (q3.front 2 rfl)
  exact bodyPost_ret (v:=.tuple #[.agg #[Ju k,J i],.bool ok]) (by simp[results,results85,go_sem,z0,z1]) rfl (Ends.mk' Hr.out.symm [Go.Proofs.YtjnbbmgbmiggbaaGreatDoor.box B [Ju k,J i] 156] (by rw[Hd.out];exact q4))
 ·have hr:Ec Z wd id=.tuple #[(AV Z.far id).val,.bool true]:=by unfold Ec;rw[if_pos Hb.out]
  have hd:Z.drop wd id=⟨Z.w,hdrop Z.far id⟩:=by unfold Sh.drop;rw[if_pos Hb.out]
  obtain⟨z,hz⟩:∃ z,AV Z.far id=z:=⟨_,rfl⟩
  obtain⟨k,i⟩:=z;rw[hz]at hr;have Hr:=zd hr;have Hd:=zd hd;have Hz:=zd hz;clear hr hd hz
  go_wp2_with fail
  refine(Does.nth (JC id hid (by have:=HZ.out.le;omega) HZ.out.far) 0 rfl S2.out).mono ?_
  rintro e w2 ⟨he,s3⟩
  rw[Hz.out,Hb.out]at he;subst he;unfold It.val;have rb:=s3.row (k:=B) 3 rfl;obtain⟨b0,b1⟩:=rb.c2;have f0:=rb.free 0;have f1:=rb.free 1;have q1:=Scope.au (As:=[dY ph (hdrop Z.far id),Go.Proofs.YtjnbbmgbmiggbaaGreatDoor.box p [ptr pw,ptr ph,J wd] 186,bY pw wd Z.w]) (Bs:=[]) s3 0 (Ju k);have q2:=Scope.au (As:=[dY ph (hdrop Z.far id),Go.Proofs.YtjnbbmgbmiggbaaGreatDoor.box p [ptr pw,ptr ph,J wd] 186,bY pw wd Z.w]) (Bs:=[]) q1 1 (J i);have Q2:=zd q2;clear s3 rb q1 q2 S2 c1 c2
  go_wp2
  have q3:=Q2.out;obtain⟨V,hV⟩:∃ V,V=(w2.setCell ⟨B,0,none⟩ (Ju k)).setCell ⟨B,1,none⟩ (J i):=⟨_,rfl⟩
  rw[←hV]at q3 ⊢
  have z0:At V B 0 (Ju k):=(q3.row (k:=B) 3 rfl).cell rfl;have z1:At V B 1 (J i):=(q3.row (k:=B) 3 rfl).cell rfl;have q4:=Scope.gI (Z:=⟨Z.w,hdrop Z.far id⟩) ((q3.front 2 rfl).front 2 rfl)
  exact bodyPost_ret (v:=.tuple #[.agg #[Ju k,J i],.bool true]) (by simp[results,results85,go_sem,z0,z1]) rfl (Ends.mk' Hr.out.symm [Go.Proofs.YtjnbbmgbmiggbaaGreatDoor.box B [Ju k,J i] 156] (by rw[Hd.out];exact q4))
end
theorem Scope.QJ {S:List Nat} {w0 w:World} {As:List HA} {ph:Nat} {l:List It} (h:Scope S w0 w As) (i:Nat) (hi:As[i]? =some (dY ph l)):∃ oa cap,w.cell? ⟨ph,0,none⟩=some (.slice oa l.length cap):=by
 have h1:=h.front i hi;obtain⟨⟨v,mb⟩,s1⟩:=Scope.xq (F:=fun c=>aG (dV ph l c)) h1;have s2:Scope S w0 w (dV ph l (v,mb)++As.eraseIdx i):=Scope.gU s1;have c0:At w ph 0 v:=(s2.row (k:=ph) 0 rfl).cell rfl;have s3:Scope S w0 w (aU v 156 2 l.length (its l)::hbox ph (v,mb)::oQ mb l::As.eraseIdx i):=s2.front 1 rfl;obtain⟨oa,cap,hv,_⟩:=s3.jh
 exact⟨oa,cap,by rw[←hv];exact c0⟩
def Am (ph:Nat) (w:World):Nat:=match w.cell? ⟨ph,0,none⟩with|some (.slice _ n _)=>n|_=>0
theorem Scope.Am {S:List Nat} {w0 w:World} {As:List HA} {ph:Nat} {l:List It} (h:Scope S w0 w As) (i:Nat) (hi:As[i]? =some (dY ph l)):Go.Proofs.YtjnbbmgbmiggbaaGreatDoor.Am ph w=l.length:=by
 obtain⟨oa,cap,hc⟩:=h.QJ i hi;unfold Go.Proofs.YtjnbbmgbmiggbaaGreatDoor.Am;rw[hc]
theorem Sm {wd f:Nat} {Z:Sh} (h:Z.far.head? =none):Sh.over wd (f+1) Z=Z:=by unfold Sh.over;rw[h]
theorem NG {wd f:Nat} {Z:Sh} {x:It} (h:Z.far.head? =some x) (hp:(Z.w.push wd x).2=false):Sh.over wd (f+1) Z=Z:=by unfold Sh.over;rw[h];simp[hp]
theorem RH {wd f:Nat} {Z:Sh} {x:It} (h:Z.far.head? =some x) (hp:(Z.w.push wd x).2=true):Sh.over wd (f+1) Z=Sh.over wd f ⟨(Z.w.push wd x).1,gu Z.far 0⟩:=by rw[Sh.over,h];simp[hp]
section
variable {p wd:Nat} {Z:Sh} {S:List Nat} {w0 w:World} {Bs:List HA}
@[reducible] def D5 (p wd pw ph:Nat):HA:=box p [ptr pw,ptr ph,J wd] 186
@[reducible] def Vh (pw:Nat):Value:=.func (.func 81) #[ptr pw] #[]
theorem Gy {pw ph m:Nat} (hZ:pG Z m) (hm:m<100000) (hwd:wd≤40):Does prog [D5 p wd pw ph,bY pw wd Z.w,dY ph Z.far] 115 #[ptr p,Vh pw] (.tuple #[]) [D5 p wd pw ph,bY pw wd (Sh.over wd (Z.far.length+1) Z).w,dY ph (Sh.over wd (Z.far.length+1) Z).far]:=Does.ax fun S w0 w s=>by
 have c0:At w p 1 (ptr ph):=(s.row (k:=p) 0 rfl).cell rfl;have H:=zd s;have HZ:=zd hZ;clear s hZ;obtain⟨R,hR⟩:∃ R,Sh.over wd (Z.far.length+1) Z=R:=⟨_,rfl⟩
 rw[hR];have HR:=zd hR;clear hR
 go_enter func115,ntmps115
 go_wp2_with fail
 refine(Does.nth oN 2 rfl H.out).mono ?_
 rintro e w1 ⟨he,s2⟩
 rw[←vJ]at he;obtain⟨xk,xi,is,hx,hx1,hx0⟩:=jE Z.far.head?;rw[hx]at he;subst he;have s3:=s2.box [Ju xk,J xi] 156;have S3:=zd s3;have Hx1:=zd hx1;have Hx0:=zd hx0;clear s2 s3 H hx hx1 hx0 c0
 go_wp2_with fail
 go_loopw [4,5] (fun a b wr=>∃ (f:Nat) (Y:Sh) (X xk:Nat) (xi:Int) (is:Bool),a=.pointer (some ⟨X,0,none⟩)∧b=.bool is∧Sh.over wd (f+1) Y=R∧pG Y m∧Y.far.length≤f∧(is=true→Y.far.head? =some ⟨xk,xi⟩)∧(is=false→Y.far.head? =none)∧Scope S w0 wr ([dY ph Y.far,D5 p wd pw ph,bY pw wd Y.w]++[box X [Ju xk,J xi] 156])) (fun _ _ wr=>Am ph wr)
 case atStart=>exact⟨Z.far.length,Z,w1.heap.size,xk,xi,is,rfl,rfl,HR.out,HZ.out,Nat.le_refl _,Hx1.out,fun h=>(Hx0.out h).1,S3.out⟩
 case round=>
  clear HZ HR S3 Hx1 Hx0;obtain⟨f,Y,X,xk,xi,is,rfl,rfl,hR,hY,hf,h1,h0,hs⟩:=hrel;have rx:=hs.row (k:=X) 3 rfl;obtain⟨x0,x1⟩:=rx.c2
  cases is
  ·obtain rfl:Y=R:=(Sm (h0 rfl)).symm.trans hR
   have Hs:=zd hs;clear hs rx hR hY hf h1 h0 x0 x1
   go_wp2
   go_end0
   exact Ends.mk [box X [Ju xk,J xi] 156] (Hs.out.perm (Bs:=[D5 p wd pw ph,bY pw wd Y.w,dY ph Y.far]++[box X [Ju xk,J xi] 156]) ((List.perm_append_comm (l₁:=[dY ph Y.far]) (l₂:=[D5 p wd pw ph,bY pw wd Y.w])).append_right _))
  ·have hx:=h1 rfl
   have okx:okI ⟨xk,xi⟩:=hY.far _ (List.mem_of_mem_head? hx);have hlen:0<Y.far.length:=by cases hq:Y.far with|nil=>rw[hq]at hx;cases hx|cons _ _=>simp
   have hme:=hs.Am 0 rfl;have Hs:=zd hs;have HR:=zd hR;have HY:=zd hY;have Hx:=zd hx;have Hf:=zd hf;have Hme:=zd hme;have Hlen:=zd hlen;clear hs rx hR hY hf h1 h0 hx hme hlen
   go_wp2_with fail
   refine(Does.nth (zn ⟨xk,xi⟩ okx HY.out.ww.ok hwd (fun n=>Nat.lt_of_le_of_lt (HY.out.ww.len n) hm)) 2 rfl Hs.out).mono ?_
   rintro e w2 ⟨rfl,s3⟩
   obtain⟨b,hb⟩:∃ b,(Y.w.push wd ⟨xk,xi⟩).2=b:=⟨_,rfl⟩
   rw[hb];have Hb:=zd hb;have S3:=zd s3;clear hb s3 x0 x1
   cases b
   ·have hpush:(Y.w.push wd ⟨xk,xi⟩).1=Y.w:=by
     have:=Hb.out
     unfold Wh.push at this ⊢
     split at this
     ·rename_i h;rw[if_pos h]
     ·cases this
    obtain rfl:Y=R:=(NG Hx.out Hb.out).symm.trans HR.out;have S4:=S3.out;rw[hpush]at S4;have S5:=zd S4;clear S4 hpush
    go_wp2
    go_end0
    refine Ends.mk [box X [Ju xk,J xi] 156] ?_
    exact S5.out.front 2 rfl
   ·have c0:At w2 p 1 (ptr ph):=(S3.out.row (k:=p) 2 rfl).cell rfl
    have hR2:=(RH Hx.out Hb.out).symm.trans HR.out;obtain⟨W2,hW2⟩:∃ W2,(Y.w.push wd ⟨xk,xi⟩).1=W2:=⟨_,rfl⟩
    have HR2:=zd hR2;have HW2:=zd hW2;clear hR2 hW2
    go_wp2_with fail
    have s4:=S3.out;rw[HW2.out]at s4;refine(Does.nth (OD (by have:=HY.out.le;omega) HY.out.far) 1 rfl s4).mono ?_
    rintro e w3 ⟨rfl,s5⟩
    rw[if_pos Hlen.out]at s5;obtain⟨l2,hl2⟩:∃ l2,gu Y.far 0=l2:=⟨_,rfl⟩
    rw[hl2]at s5;have HR3:=HR2.out;rw[hl2,HW2.out]at HR3;have okY:pG ⟨W2,l2⟩ m:=by
     have hl:=HY.out.le;have h1:=kX Y.far 0;have h2:=Hlen.out;rw[←hl2, ←HW2.out]
     exact⟨(HY.out.w.push wd okx).le (by simp only;omega),by simp only;omega,HY.out.far.lq _⟩
    have hlen2:l2.length+1=Y.far.length:=by rw[←hl2,kX];have:=Hlen.out;omega
    have rx:=s5.row (k:=X) 3 rfl;obtain⟨x0,x1⟩:=rx.c2;obtain⟨X2,hX2⟩:∃ X2,X2=w3.heap.size:=⟨_,rfl⟩
    have s6:=s5.box [Ju xk,J xi] 156;rw[←hX2]at s6;have c1:At w3 p 1 (ptr ph):=(s5.row (k:=p) 2 rfl).cell rfl;have lp:=(s5.row (k:=p) 2 rfl).lt;have S6:=zd s6;have HR3':=zd HR3;have OkY:=zd okY;have Hlen2:=zd hlen2;have HX2:=zd hX2;clear s4 s5 s6 rx HR3 okY hlen2 hX2 hl2 S3 HR2 HW2 c0
    go_wp2_with fail
    rw[←HX2.out];refine(Does.nth (oN (l:=l2)) 0 rfl S6.out).mono ?_
    rintro e w4 ⟨he,s7⟩
    rw[←vJ]at he;obtain⟨yk,yi,is2,hy,hy1,hy0⟩:=jE l2.head?;rw[hy]at he;subst he;have ry:=s7.row (k:=X2) 4 rfl;obtain⟨b0,b1⟩:=ry.c2;have f0:=ry.free 0;have f1:=ry.free 1;have s8:Scope S w0 w4 ([dY ph l2,bY pw wd W2,D5 p wd pw ph,box X [Ju xk,J xi] 156]++([box X2 [Ju xk,J xi] 156]++[])):=s7;have q1:=Scope.au s8 0 (Ju yk);have q2:=Scope.au q1 1 (J yi);obtain⟨V,hV⟩:∃ V,V=(w4.setCell ⟨X2,0,none⟩ (Ju yk)).setCell ⟨X2,1,none⟩ (J yi):=⟨_,rfl⟩
    rw[←hV]at q2;have q3:Scope S w0 V ([dY ph l2,D5 p wd pw ph,bY pw wd W2]++[box X2 [Ju yk,J yi] 156]):=by
     have q5:=(q2.front 3 rfl).drop_left (As:=[box X [Ju xk,J xi] 156])
     exact(q5.front 2 rfl).front 1 rfl
    have hme2:=q3.Am 0 rfl;have Q3:=zd q3;have Hy1:=zd hy1;have Hy0:=zd hy0;have HV:=zd hV;have Hme2:=zd hme2;clear s7 s8 q1 q2 q3 ry hy hy1 hy0 hV hme2 S6
    go_wp2
    rw[←HV.out]
    go_roundw
    case rel=>exact⟨f - 1,⟨W2,l2⟩,X2,yk,yi,is2,by rw[HX2.out],rfl,by rw[show f - 1+1=f by have:=Hf.out;have:=Hlen2.out;omega];exact HR3'.out,OkY.out,by have:=Hf.out;have:=Hlen2.out;simp only;omega,Hy1.out,fun h=>(Hy0.out h).1,Q3.out⟩
    case measure=>rw[Hme2.out,Hme.out];have:=Hlen2.out;omega
end
theorem BH {x:Option It} {k:Nat} {i:Int} {is:Bool} (h1:is=true→x=some ⟨k,i⟩) (h0:is=false→x=none) (to:Nat):tooFar x to=(is&&decide (k<to)):=by
 cases is
 ·rw[h0 rfl];rfl
 ·rw[h1 rfl];rfl
section
variable {p wd:Nat} {Z:Sh} {S:List Nat} {w0 w:World} {Bs:List HA}
theorem Gx (to:Nat) (ht:to<18446744073709551616) {m:Nat} (hZ:pG Z m) (hm:m<100000) (hwd:wd≤40):Does prog [dF p wd Z,bP] 86 #[ptr p,Ju to] (.bool (Z.move wd to).2) [dF p wd (Z.move wd to).1,bP]:=Does.ax fun S w0 w h=>by
 have H:=zd h;have HZ:=zd hZ;clear h hZ
 go_enter func86,ntmps86
 go_wp2_with fail
 refine((vO HZ.out hm).call (Bs:=[]) H.out).mono ?_
 rintro e w1 ⟨he,s1⟩
 obtain⟨xk,xi,is,hx,hx1,hx0⟩:=jE Z.min;rw[hx]at he;subst he;have htf:=BH hx1 (fun h=>(hx0 h).1) to;obtain⟨pw,ph,s2⟩:=Scope.kL s1;obtain⟨X,hX⟩:∃ X,X=w1.heap.size:=⟨_,rfl⟩
 have s3:=s2.box [Ju xk,J xi] 156;rw[←hX]at s3;obtain⟨V,hV⟩:∃ V,V=w1.alloc (.cells #[Ju xk,J xi] 156):=⟨_,rfl⟩
 rw[show w1.alloc (.cells [Ju xk,J xi].toArray 156)=V from hV.symm]at s3;have c0:At w1 p 0 (ptr pw):=(s2.row (k:=p) 0 rfl).cell rfl;have lp:=(s2.row (k:=p) 0 rfl).lt;have S3:=zd s3;have HX:=zd hX;have HV:=zd hV;have Htf:=zd htf;clear s1 s2 s3 hX hV htf hx hx1 hx0 H
 by_cases h2:(is&&decide (xk<to))=true
 ·have hr:Z.move wd to=(Z,false):=by unfold Sh.move;rw[Htf.out,if_pos (Or.inl h2)]
  have Hr:=zd hr;clear hr;obtain⟨h3,h4⟩:=Bool.and_eq_true _ _▸h2;have h4:xk<to:=of_decide_eq_true h4;subst h3;clear h2
  go_wp2
  go_ret
  rw[←HV.out];refine Ends.mk' (by rw[Hr.out];rfl) [box X [Ju xk,J xi] 156] ?_;rw[Hr.out]
  exact S3.out.gI
 ·have h5:is=false∨is=true∧¬ xk<to:=by
   cases is
   ·exact .inl rfl
   ·refine .inr ⟨rfl,fun q=>h2 ?_⟩
    simp;omega
  obtain⟨b,hb⟩:∃ b,(Z.w.move wd to).2=b:=⟨_,rfl⟩
  have Hb:=zd hb;have H2:=zd h2;clear h2 hb
  cases b
  ·have hr:Z.move wd to=(Z,false):=by unfold Sh.move;rw[if_pos (Or.inr Hb.out)]
   have hw:(Z.w.move wd to).1=Z.w:=by
    have:=Hb.out
    unfold Wh.move at this ⊢
    split at this
    ·rename_i h;rw[if_pos h]
    ·cases this
   have Hr:=zd hr;have Hw:=zd hw;clear hr hw
   rcases h5 with rfl|⟨rfl,h5⟩
   all_goals
    go_wp2_with fail
    rw[←HV.out];refine(Does.two (yI to ht HZ.out.ww hm hwd) 1 2 rfl rfl S3.out).mono ?_
    rintro e w2 ⟨he,s4⟩
    rw[Hb.out]at he;subst he;rw[Hw.out]at s4;have S4:=zd s4;clear s4
    go_wp2
    go_ret
    refine Ends.mk' (by rw[Hr.out];rfl) [box X [Ju xk,J xi] 156] ?_;rw[Hr.out]
    exact Scope.gI ((((S4.out.front 1 rfl).front 3 rfl).front 2 rfl).front 3 rfl)
  ·obtain⟨Y,hY⟩:∃ Y:Sh,Y=⟨(Z.w.move wd to).1,Z.far⟩:=⟨_,rfl⟩
   have hr:Z.move wd to=(Sh.over wd (Y.far.length+1) Y,true):=by
    unfold Sh.move;rw[Htf.out,if_neg (fun q=>q.elim H2.out (fun q=>by rw[Hb.out]at q;cases q)),hY]
   have okY:pG Y m:=by rw[hY];exact⟨HZ.out.w.move wd to ht,HZ.out.le,HZ.out.far⟩
   have e1:(Z.w.move wd to).1=Y.w:=by rw[hY]
   have e2:Z.far=Y.far:=by rw[hY]
   have Hr:=zd hr;have OkY:=zd okY;have E1:=zd e1;have E2:=zd e2;clear hr okY e1 e2 hY
   rcases h5 with rfl|⟨rfl,h5⟩
   all_goals
    go_wp2_with fail
    rw[←HV.out];refine(Does.two (yI to ht HZ.out.ww hm hwd) 1 2 rfl rfl S3.out).mono ?_
    rintro e w2 ⟨he,s4⟩
    rw[Hb.out]at he;subst he;rw[E1.out,E2.out]at s4;have s5:Scope S w0 w2 [D5 p wd pw ph,bY pw wd Y.w,dY ph Y.far,bP,box X [Ju xk,J xi] 156]:=(((s4.front 1 rfl).front 3 rfl).front 2 rfl).front 3 rfl;have c1:At w2 p 0 (ptr pw):=(s5.row (k:=p) 0 rfl).cell rfl;have S5:=zd s5;clear s4 s5
    go_wp2_with fail
    refine((Gy OkY.out hm hwd).call (Bs:=[bP,box X [Ju xk,J xi] 156]) S5.out).mono ?_
    rintro e w3 ⟨rfl,s6⟩
    have S6:=zd s6;clear s6 c1
    go_wp2
    go_ret
    refine Ends.mk' (by rw[Hr.out];rfl) [box X [Ju xk,J xi] 156] ?_;rw[Hr.out]
    exact Scope.gI S6.out
def PL (S:List Nat) (w0:World) (wd:Nat) (As:List HA) (e:Ending) (w':World):Prop:=∃ p,e=.returned (ptr p)∧Scope S w0 w' (dF p wd .new::As)
theorem Jm {S:List Nat} {w0 w:World} {As:List HA} {wd:Nat} (hwd:wd≤40) (h:Scope S w0 w As):Calls prog 58 #[J wd] w (PL S w0 wd As):=by
 have H:=zd h;clear h
 go_enter func58,ntmps58
 go_wp2_with fail
 refine(GG (wd:Int) H.out).mono ?_
 rintro e w1 ⟨pw,rfl,s1⟩
 rw[DX hwd]at s1;have S1:=zd s1;clear s1
 go_wp2_with fail
 refine(Jc S1.out).mono ?_
 rintro e w2 ⟨ph,rfl,s2⟩
 have S2:=zd s2;clear s2
 go_wp2
 go_ret
 refine⟨w2.heap.size,rfl,?_⟩;have s3:=S2.out.box [ptr pw,ptr ph,J wd] 186;have s4:Scope S w0 _ ([dY ph [],bY pw wd .new]++As++[box w2.heap.size [ptr pw,ptr ph,J wd] 186]):=s3;refine Scope.gI (Z:=.new) (pw:=pw) (ph:=ph) (s4.perm ?_);refine List.perm_append_comm.trans (List.Perm.cons _ ?_)
 exact List.Perm.swap _ _ _
end
end Go.Proofs.YtjnbbmgbmiggbaaGreatDoor
