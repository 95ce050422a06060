/- Lemmas for TopTries' card: package core, second part; package inbox; all parts as one thing. -/
import Derived.Test.YtjnbbmgbmiggbaaGreatDoorZ09
set_option linter.unusedSimpArgs false
set_option linter.unusedVariables false
set_option maxRecDepth 20000
set_option maxHeartbeats 4000000
namespace Go.Proofs.YtjnbbmgbmiggbaaGreatDoor
open Go Go.RowKit Go.Maps Go.Proofs.Tryz
@[reducible] def qV (p:Nat) (c:Vy) (v most:Nat) (served:Int) (is:Bool) (obj:Int) (key:Nat):HA:=box p [.func (.func 46) #[ptr c.pq] #[],.func (.func 47) #[ptr c.pq] #[],.func (.func 48) #[ptr c.pq] #[],Ju v,Ju most,J served,.map (some c.tb),.map (some c.ob),.bool is,J obj,Ju key] 140
section
variable {p wd:Nat} {k:Co}
theorem Jr (size:Int) (hsz:I64 size) (more:Bool) {m:Nat} (hk:rY k m) (hm:m+1<100000) (hwd:wd≤40):Does prog [eP p wd k,bP] 295 #[ptr p,J size,.bool more] (.bool k.last.1) [eP p wd (k.done wd size more),bP]:=Does.ax fun S w0 w h=>by
 obtain⟨c,s0⟩:=Scope.o6 h;obtain⟨is,his⟩:∃ is,is=k.last.1:=⟨_,rfl⟩
 obtain⟨o,ho⟩:∃ o,o=k.last.2.1:=⟨_,rfl⟩
 obtain⟨key,hkey⟩:∃ key,key=k.last.2.2:=⟨_,rfl⟩
 have s1:Scope S w0 w ([]++([qV p c k.v k.most k.served is o key]++[wu c.tb k.th,jT c.ob k.ow,dR c.pq wd k.q,bP])):=by rw[his,ho,hkey];exact s0
 have c8:At w p 8 (.bool is):=(s1.row (k:=p) 0 rfl).cell rfl;have c9:At w p 9 (J o):=(s1.row (k:=p) 0 rfl).cell rfl;have c10:At w p 10 (Ju key):=(s1.row (k:=p) 0 rfl).cell rfl;have lp:=(s1.row (k:=p) 0 rfl).lt;have f8:=(s1.row (k:=p) 0 rfl).free 8;have f9:=(s1.row (k:=p) 0 rfl).free 9;have f10:=(s1.row (k:=p) 0 rfl).free 10;obtain⟨L,hL⟩:∃ L,L=w.heap.size:=⟨_,rfl⟩
 have hoI:I64 o:=by rw[ho];exact hk.last.1
 have hkey64:key<18446744073709551616:=by rw[hkey];exact hk.last.2
 have hlast:k.last=(is,o,key):=by rw[his,ho,hkey]
 have Hk:=zd hk;have HL:=zd hL;have Hlast:=zd hlast;rw[←his]
 cases is
 ·have hr:k.done wd size more=k:=by unfold Co.done;rw[if_pos his.symm]
  have s2:=s1.box [.bool false,J o,Ju key] 138;rw[←hL]at s2;have s3:Scope S w0 (w.alloc (.cells [.bool false,J o,Ju key].toArray 138)) (nT p wd k c++[bP,box L [.bool false,J o,Ju key] 138]):=by
   rw[his,ho,hkey]at s2;rw[his,ho,hkey];exact s2
  have S3:=zd s3.kT;have Hr:=zd hr;clear h s0 s1 s2 s3 his ho hkey hL hr hlast
  go_enter func295,ntmps295
  go_wp2
  go_ret
  refine Ends.mk [box L [.bool false,J o,Ju key] 138] ?_;rw[Hr.out]
  exact S3.out
 ·obtain⟨y,hy⟩:∃ y,y=(k.th o).served key size:=⟨_,rfl⟩
  obtain⟨x,hx⟩:∃ x,x=k.th o:=⟨_,rfl⟩
  have hx4:=hk.th o;rw[←hx]at hx4;have hr:k.done wd size more=⟨if more=true then(k.q.push wd ⟨y.finish,y.flow⟩).1 else k.q,k.v,max k.most y.finish,k.served+1,upd k.th o y,k.ow,(false,0,0)⟩:=by
   unfold Co.done;rw[if_neg (by rw[←his];simp), ←ho, ←hkey, ←hy]
  have q1:=Scope.au (As:=[]) s1 8 (.bool false);have q2:=Scope.au (As:=[]) q1 9 (J 0);have q3:=Scope.au (As:=[]) q2 10 (Ju 0);have q4:=q3.box [.bool true,J o,Ju key] 138;rw[show(((w.setCell ⟨p,8,none⟩ (.bool false)).setCell ⟨p,9,none⟩ (J 0)).setCell ⟨p,10,none⟩ (Ju 0)).heap.size=L by rw[hL];simp]at q4;have hz:∀ w,(zeroValue 300).run prog w=.ok (Gf .zero) w:=fun _=>by kernel_rfl
  have Hr:=zd hr;have Q4:=zd q4;have Hy:=zd hy;have Hx:=zd hx;have Hz:=zd hz;clear h s0 s1 q1 q2 q3 q4 his ho hkey hL hr hlast hy hx hz
  go_enter func295,ntmps295
  go_wp2_with fail
  rw[←HL.out];obtain⟨U0,hU0⟩:∃ U0,U0=(((w.setCell ⟨p,8,none⟩ (.bool false)).setCell ⟨p,9,none⟩ (J 0)).setCell ⟨p,10,none⟩ (Ju 0)).alloc (.cells #[.bool true,J o,Ju key] 138):=⟨_,rfl⟩
  have sd:Scope S w0 U0.drew [qV p c k.v k.most k.served false 0 0,wu c.tb k.th,jT c.ob k.ow,dR c.pq wd k.q,bP,box L [.bool true,J o,Ju key] 138]:=by rw[hU0];exact Q4.out.drew
  rw[←hU0];clear hU0 Q4 c8 c9 c10 f8 f9 f10 lp;refine aP (by kernel_rfl) ?_;generalize U0.drew=V at sd ⊢
  obtain⟨kx,hkx⟩:=qy hoI;have run:∀ {w':World} {As:List HA},Scope S w0 w' As→As[1]? =some (wu c.tb k.th)→(Instr.lookup 136 (.map (some c.tb)) (J o) false).run prog w'=.ok (.agg #[J x.flow,Ju x.r,Ju x.finish,Ju x.place]) w':=fun {w' As} s h1=>by
   obtain⟨fo,⟨⟨f,hmf,hth⟩,_⟩,_⟩:=s.get 1 h1;have hrun:=hmf.lookup (t:=136) nV underlying136 (Hz.out w') hkx;have hth':(f (J o)).getD (Gf .zero)=Gf x:=by rw[Hx.out];exact hth o
   rw[hth']at hrun
   exact hrun
  have h0:At V p 6 (.map (some c.tb))∧At V L 1 (J o)∧(Instr.lookup 136 (.map (some c.tb)) (J o) false).run prog V=.ok (.agg #[J x.flow,Ju x.r,Ju x.finish,Ju x.place]) V:=⟨(sd.row (k:=p) 0 rfl).cell rfl,(sd.row (k:=L) 5 rfl).cell rfl,run sd rfl⟩
  obtain⟨X,hX⟩:∃ X,X=V.heap.size:=⟨_,rfl⟩
  obtain⟨V1,hV1⟩:∃ V1,V1=V.alloc (.cells #[J 0,Ju 0,Ju 0,Ju 0] 300):=⟨_,rfl⟩
  have s2:=sd.box [J 0,Ju 0,Ju 0,Ju 0] 300;rw[←hX,show V.alloc (.cells [J 0,Ju 0,Ju 0,Ju 0].toArray 300)=V1 from hV1.symm]at s2;have h1:At V1 p 6 (.map (some c.tb))∧At V1 L 1 (J o)∧(Instr.lookup 136 (.map (some c.tb)) (J o) false).run prog V1=.ok (.agg #[J x.flow,Ju x.r,Ju x.finish,Ju x.place]) V1:=⟨(s2.row (k:=p) 0 rfl).cell rfl,(s2.row (k:=L) 5 rfl).cell rfl,run s2 rfl⟩
  have S2:Hid (Scope S w0 V1 ([qV p c k.v k.most k.served false 0 0,wu c.tb k.th,jT c.ob k.ow,dR c.pq wd k.q,bP,box L [.bool true,J o,Ju key] 138]++([box X [J 0,Ju 0,Ju 0,Ju 0] 300]++[]))):=zd s2;have HX:=zd hX;have HV1:=zd hV1;clear sd s2 hX hV1 run hkx;refine aY [0,4] ?_
  repeat (refine ay _ rfl (by kernel_rfl) (fun _ _ _ h=>h) (fun w'=>by(try simp only[ag,ah,aj]);go_simp;try with_reducible rfl) ?_;try simp only[Act.put,ag,ah,aj,aF,aB,aC])
  refine aH ?_;refine bu (S:=fun w'=>At w' p 6 (.map (some c.tb))∧At w' L 1 (J o)∧(Instr.lookup 136 (.map (some c.tb)) (J o) false).run prog w'=.ok (.agg #[J x.flow,Ju x.r,Ju x.finish,Ju x.place]) w') (U:=[1,2,3,5,6,7]) _ _ _ _ ?_;refine dB [1,2,3,5,6] ?_
  repeat (refine aN _ rfl (by kernel_rfl) (fun _ _ _ h=>h) h0 (fun w' hS=>by(try dsimp only at hS);(try simp only[ag,ah,aj]);go_simp;try with_reducible rfl) ?_;try simp only[Act.put,ag,ah,aj,aF,aB,aC])
  refine bM ?_;refine aK 7 (by kernel_rfl) rfl (by rfl) fun K hK=>?_
  go_simp;rw[←HX.out,show V.alloc (.cells #[J 0,Ju 0,Ju 0,Ju 0] 300)=V1 from HV1.out.symm];refine hK _ _ ⟨fun _=>h1,?_⟩;clear hK K h0
  try simp only[Act.put,ag,ah,aj,aF,aB,aC]
  refine aX _ _ _ _ (fun j hj=>?_) ?_
  ·simp at hj;rcases hj with rfl|rfl|rfl|rfl|rfl|rfl<;>rfl
  have rX:=S2.out.row (k:=X) 6 rfl;obtain⟨e0,e1,e2,e3⟩:=rX.c4;have f0:=rX.free 0;have f1:=rX.free 1;have f2:=rX.free 2;have f3:=rX.free 3;have q1:=Scope.au S2.out 0 (J x.flow);have q2:=Scope.au q1 1 (Ju x.r);have q3:=Scope.au q2 2 (Ju x.finish);have q4:=Scope.au q3 3 (Ju x.place);have Q4:=zd q4;clear rX q1 q2 q3 q4 h1;refine af 8 (by kernel_rfl) rfl (by rfl) fun K hK=>?_
  go_simp;refine hK _ _ ?_;clear hK K
  try simp only[Act.put,ag,ah,aj,aF,aB,aC]
  refine wpAny_done (by kernel_rfl) ?_ _;clear e0 e1 e2 e3 f0 f1 f2 f3;obtain⟨V2,hV2⟩:∃ V2,V2=(((V1.setCell ⟨X,0,none⟩ (J x.flow)).setCell ⟨X,1,none⟩ (Ju x.r)).setCell ⟨X,2,none⟩ (Ju x.finish)).setCell ⟨X,3,none⟩ (Ju x.place):=⟨_,rfl⟩
  have s3:=Q4.out;rw[←hV2]at s3 ⊢
  have S3:Hid (Scope S w0 V2 ([qV p c k.v k.most k.served false 0 0,wu c.tb k.th,jT c.ob k.ow,dR c.pq wd k.q,bP,box L [.bool true,J o,Ju key] 138]++([box X [J x.flow,Ju x.r,Ju x.finish,Ju x.place] 300]++[]))):=zd s3;clear s3 hV2 Q4 S2
  go_wp2_with fail
  refine aP (by kernel_rfl) ?_;have sd:=S3.out.drew;generalize V2.drew=V3 at sd ⊢
  have h0:At V3 L 2 (Ju key)∧At V3 X 1 (Ju x.r):=⟨(sd.row (k:=L) 5 rfl).cell rfl,(sd.row (k:=X) 6 rfl).cell rfl⟩
  refine aY [0,2,3] ?_
  repeat (refine ay _ rfl (by kernel_rfl) (fun _ _ _ h=>h) (fun w'=>by(try simp only[ag,ah,aj]);go_simp;try with_reducible rfl) ?_;try simp only[Act.put,ag,ah,aj,aF,aB,aC])
  refine aH ?_;refine bu (S:=fun w'=>At w' L 2 (Ju key)∧At w' X 1 (Ju x.r)) (U:=[1,4,5]) _ _ _ _ ?_;refine dB [1,4] ?_
  repeat (refine aN _ rfl (by kernel_rfl) (fun _ _ _ h=>h) h0 (fun w' hS=>by(try dsimp only at hS);(try simp only[ag,ah,aj]);go_simp;try with_reducible rfl) ?_;try simp only[Act.put,ag,ah,aj,aF,aB,aC])
  refine bM ?_;refine aK 5 (by kernel_rfl) rfl (by rfl) fun K hK=>?_
  go_simp;refine(Ij size x.r hx4.2.1 hsz _).mono ?_
  rintro e w3 ⟨rfl,rfl⟩
  refine hK _ _ ⟨fun _=>h0,?_⟩;clear hK K
  try simp only[Act.put,ag,ah,aj,aF,aB,aC]
  refine aX _ _ _ _ (fun j hj=>?_) ?_
  ·simp at hj;rcases hj with rfl|rfl|rfl<;>rfl
  refine af 6 (by kernel_rfl) rfl (by rfl) fun K hK=>?_
  go_simp;refine(OL key (wV size x.r) _).mono ?_
  rintro e w4 ⟨rfl,rfl⟩
  refine hK _ _ ?_;obtain⟨fin,hfin⟩:∃ fin,fin=Dc key (wV size x.r):=⟨_,rfl⟩
  rw[←hfin];have Hfin:=zd hfin;have rX:=sd.row (k:=X) 6 rfl;have e2:=rX.cell (j:=2) rfl;have f2:=rX.free 2;have q1:Scope S w0 _ ([qV p c k.v k.most k.served false 0 0,wu c.tb k.th,jT c.ob k.ow,dR c.pq wd k.q,bP,box L [.bool true,J o,Ju key] 138]++([box X [J x.flow,Ju x.r,Ju fin,Ju x.place] 300]++[])):=Scope.au (As:=[qV p c k.v k.most k.served false 0 0,wu c.tb k.th,jT c.ob k.ow,dR c.pq wd k.q,bP,box L [.bool true,J o,Ju key] 138]) (Bs:=[]) sd 2 (Ju fin);have Q1:=zd q1;clear hK K h0 rX sd q1 hfin S3
  try simp only[Act.put,ag,ah,aj,aF,aB,aC]
  refine aY [7] ?_
  repeat (refine ay _ rfl (by kernel_rfl) (fun _ _ _ h=>h) (fun w'=>by(try simp only[ag,ah,aj]);go_simp;try with_reducible rfl) ?_;try simp only[Act.put,ag,ah,aj,aF,aB,aC])
  refine aH ?_;refine af 8 (by kernel_rfl) rfl (by rfl) fun K hK=>?_
  go_simp;refine hK _ _ ?_;clear hK K
  try simp only[Act.put,ag,ah,aj,aF,aB,aC]
  refine wpAny_done (by kernel_rfl) ?_ _;clear e2 f2;obtain⟨V4,hV4⟩:∃ V4,V4=V3.setCell ⟨X,2,none⟩ (Ju fin):=⟨_,rfl⟩
  have s4:=Q1.out;rw[←hV4]at s4 ⊢
  have rX:=s4.row (k:=X) 6 rfl;have e3:=rX.cell (j:=3) rfl;have f3:=rX.free 3;obtain⟨pl,hpl⟩:∃ pl,pl=(x.place+1) % 18446744073709551616:=⟨_,rfl⟩
  have hw:IntKind.u64.wrap ((x.place:Int)+1)=(pl:Int):=by rw[IntKind.wrap_u64,hpl];omega
  have q1:=Scope.au s4 3 (Ju pl);have Q1:=zd q1;have Hpl:=zd hpl;clear s4 hV4 rX hpl q1
  go_wp2_with fail
  clear e3 f3 hw;obtain⟨V5,hV5⟩:∃ V5,V5=V4.setCell ⟨X,3,none⟩ (Ju pl):=⟨_,rfl⟩
  have s5:=Q1.out;rw[←hV5]at s5 ⊢
  have S5:=zd s5;clear s5 hV5 Q1;refine aP (by kernel_rfl) ?_;have sd:=S5.out.drew;generalize V5.drew=V6 at sd ⊢
  have hyv:y=⟨x.flow,x.r,fin,pl⟩:=by rw[Hy.out,Hfin.out,Hpl.out,Hx.out];rfl
  obtain⟨kx,hkx⟩:=qy hoI;obtain⟨fm,⟨⟨f,hmf,hth⟩,rfl⟩,t1⟩:=(sd.front 1 rfl).turned;obtain⟨W1,r1,M1,D1⟩:=hmf.update (t:=136) nV underlying136 (Gf y) hkx;have s7:=t1 (wu c.tb (upd k.th o y)) W1 [c.tb] ⟨⟨_,M1,hth.put o y⟩,rfl⟩ D1 (Own.refl _ _);rw[hyv]at r1;unfold Gf at r1
  simp only at r1
  have rX:=sd.row (k:=X) 6 rfl;have h0:At V6 p 6 (.map (some c.tb))∧At V6 L 1 (J o)∧At V6 X 0 (J x.flow)∧At V6 X 1 (Ju x.r)∧At V6 X 2 (Ju fin)∧At V6 X 3 (Ju pl):=⟨(sd.row (k:=p) 0 rfl).cell rfl,(sd.row (k:=L) 5 rfl).cell rfl,rX.cell rfl,rX.cell rfl,rX.cell rfl,rX.cell rfl⟩
  have s8:Scope S w0 W1 [qV p c k.v k.most k.served false 0 0,wu c.tb (upd k.th o y),jT c.ob k.ow,dR c.pq wd k.q,bP,box L [.bool true,J o,Ju key] 138,box X [J x.flow,Ju x.r,Ju fin,Ju pl] 300]:=s7.front 1 rfl;have S8:=zd s8;have Hyv:=zd hyv;clear sd t1 s7 s8 hmf hth M1 D1 rX hkx hyv S5;refine aY [0,4] ?_
  repeat (refine ay _ rfl (by kernel_rfl) (fun _ _ _ h=>h) (fun w'=>by(try simp only[ag,ah,aj]);go_simp;try with_reducible rfl) ?_;try simp only[Act.put,ag,ah,aj,aF,aB,aC])
  refine aH ?_;refine bu (S:=fun w'=>At w' p 6 (.map (some c.tb))∧At w' L 1 (J o)∧At w' X 0 (J x.flow)∧At w' X 1 (Ju x.r)∧At w' X 2 (Ju fin)∧At w' X 3 (Ju pl)) (U:=[1,2,3,5,6]) _ _ _ _ ?_;refine dB [1,2,3,5,6] ?_
  repeat (refine aN _ rfl (by kernel_rfl) (fun _ _ _ h=>h) h0 (fun w' hS=>by(try dsimp only at hS);(try simp only[ag,ah,aj]);go_simp;try with_reducible rfl) ?_;try simp only[Act.put,ag,ah,aj,aF,aB,aC])
  refine bM ?_;refine aX _ _ _ _ (fun j hj=>?_) ?_
  ·simp at hj;rcases hj with rfl|rfl|rfl|rfl|rfl<;>rfl
  refine af 7 (by kernel_rfl) rfl (by rfl) fun K hK=>?_
  go_simp;refine hK _ _ ?_;clear hK K
  try simp only[Act.put,ag,ah,aj,aF,aB,aC]
  refine wpAny_done (by kernel_rfl) ?_ _;clear r1 h0;obtain⟨mo,hmo⟩:∃ mo,mo=k.most:=⟨_,rfl⟩
  obtain⟨mx,hmx⟩:∃ mx,mx=max mo fin:=⟨_,rfl⟩
  have hmx':(if mo<fin then(fin:Int)else(mo:Int))=(mx:Int):=by rw[hmx];split<;>omega
  have sd:=S8.out.drew;rw[←hmo]at sd;have Hmo:=zd hmo;have Hmx:=zd hmx;clear hmo hmx S8
  go_wp2_with fail
  refine aP (by kernel_rfl) ?_;generalize W1.drew=V7 at sd ⊢
  have rp:=sd.row (k:=p) 0 rfl;have h0:At V7 p 4 (Ju mo)∧At V7 X 2 (Ju fin):=⟨rp.cell rfl,(sd.row (k:=X) 6 rfl).cell rfl⟩
  have e4:=rp.cell (j:=4) rfl;have f4:=rp.free 4;have q1:=Scope.au (As:=[]) sd 4 (Ju mx);have Q1:=zd q1;clear rp sd q1;refine aY [0,1,5] ?_
  repeat (refine ay _ rfl (by kernel_rfl) (fun _ _ _ h=>h) (fun w'=>by(try simp only[ag,ah,aj]);go_simp;try with_reducible rfl) ?_;try simp only[Act.put,ag,ah,aj,aF,aB,aC])
  refine aH ?_;refine bu (S:=fun w'=>At w' p 4 (Ju mo)∧At w' X 2 (Ju fin)) (U:=[2,3,4,6,7]) _ _ _ _ ?_;refine dB [2,3,4,6,7] ?_
  repeat (refine aN _ rfl (by kernel_rfl) (fun _ _ _ h=>h) h0 (fun w' hS=>by(try dsimp only at hS);(try simp only[ag,ah,aj]);go_simp;try with_reducible rfl) ?_;try simp only[Act.put,ag,ah,aj,aF,aB,aC])
  refine bM ?_;refine aX _ _ _ _ (fun j hj=>?_) ?_
  ·simp at hj;rcases hj with rfl|rfl|rfl|rfl|rfl<;>rfl
  refine aY [8,9] ?_
  repeat (refine ay _ rfl (by kernel_rfl) (fun _ _ _ h=>h) (fun w'=>by(try simp only[ag,ah,aj]);go_simp;try with_reducible rfl) ?_;try simp only[Act.put,ag,ah,aj,aF,aB,aC])
  refine aH ?_;refine af 10 (by kernel_rfl) rfl (by rfl) fun K hK=>?_
  go_simp;refine hK _ _ ?_;clear hK K
  try simp only[Act.put,ag,ah,aj,aF,aB,aC]
  refine wpAny_done (by kernel_rfl) ?_ _;clear e4 f4 h0 hmx';obtain⟨V8,hV8⟩:∃ V8,V8=V7.setCell ⟨p,4,none⟩ (Ju mx):=⟨_,rfl⟩
  have s9:=Q1.out;rw[←hV8]at s9 ⊢
  have rp:=s9.row (k:=p) 0 rfl;have e5:At V8 p 5 (J k.served):=rp.cell rfl;have f5:=rp.free 5;have q5:=Scope.au (As:=[]) s9 5 (J (k.served+1));have hsv:=Hk.out.served;have Q5:=zd q5;clear s9 rp q5 hV8 Q1;obtain⟨V9,hV9⟩:∃ V9,V9=V8.setCell ⟨p,5,none⟩ (J (k.served+1)):=⟨_,rfl⟩
  have s10:=Q5.out;rw[←hV9]at s10;have s10:Scope S w0 V9 [qV p c k.v mx (k.served+1) false 0 0,wu c.tb (upd k.th o y),jT c.ob k.ow,dR c.pq wd k.q,bP,box L [.bool true,J o,Ju key] 138,box X [J x.flow,Ju x.r,Ju fin,Ju pl] 300]:=s10;have emx:max k.most y.finish=mx:=by rw[Hyv.out,Hmx.out,Hmo.out]
  have efl:y.finish=fin∧y.flow=x.flow:=by rw[Hyv.out];exact⟨rfl,rfl⟩
  have S10:=zd s10;have HV9:=zd hV9;have Emx:=zd emx;have Efl:=zd efl;have hfin64:fin<18446744073709551616:=by rw[Hfin.out];exact KU _ _
  clear Q5 s10 hV9 emx efl
  cases more
  ·have hr:=Hr.out
   rw[if_neg (by simp),Emx.out]at hr;have Hr2:=zd hr;clear hr
   go_wp2
   go_ret
   rw[←HV9.out];refine Ends.mk [box L [.bool true,J o,Ju key] 138,box X [J x.flow,Ju x.r,Ju fin,Ju pl] 300] ?_;rw[Hr2.out];have s11:Scope S w0 V9 (nT p wd ⟨k.q,k.v,mx,k.served+1,upd k.th o y,k.ow,(false,0,0)⟩ c++[bP,box L [.bool true,J o,Ju key] 138,box X [J x.flow,Ju x.r,Ju fin,Ju pl] 300]):=S10.out
   exact s11.kT
  ·have hr:=Hr.out
   rw[if_pos rfl,Emx.out,Efl.out.1,Efl.out.2]at hr;have Hr2:=zd hr;clear hr
   go_wp2_with fail
   rw[←HV9.out];clear e5 f5;refine aP (by kernel_rfl) ?_;have sd:=S10.out.drew;generalize V9.drew=V10 at sd ⊢
   have rX:=sd.row (k:=X) 6 rfl;have h0:At V10 p 0 (.func (.func 46) #[ptr c.pq] #[])∧At V10 X 2 (Ju fin)∧At V10 X 0 (J x.flow):=⟨(sd.row (k:=p) 0 rfl).cell rfl,rX.cell rfl,rX.cell rfl⟩
   have Sd:=zd sd;clear rX sd S10;refine aY [0,4,6] ?_
   repeat (refine ay _ rfl (by kernel_rfl) (fun _ _ _ h=>h) (fun w'=>by(try simp only[ag,ah,aj]);go_simp;try with_reducible rfl) ?_;try simp only[Act.put,ag,ah,aj,aF,aB,aC])
   refine aH ?_;refine bu (S:=fun w'=>At w' p 0 (.func (.func 46) #[ptr c.pq] #[])∧At w' X 2 (Ju fin)∧At w' X 0 (J x.flow)) (U:=[1,2,3,5,7,8]) _ _ _ _ ?_;refine dB [1,2,3,5,7,8] ?_
   repeat (refine aN _ rfl (by kernel_rfl) (fun _ _ _ h=>h) h0 (fun w' hS=>by(try dsimp only at hS);(try simp only[ag,ah,aj]);go_simp;try with_reducible rfl) ?_;try simp only[Act.put,ag,ah,aj,aF,aB,aC])
   refine bM ?_;refine aX _ _ _ _ (fun j hj=>?_) ?_
   ·simp at hj;rcases hj with rfl|rfl|rfl|rfl|rfl|rfl<;>rfl
   refine af 9 (by kernel_rfl) rfl (by rfl) fun K hK=>?_
   go_simp;refine(Does.Qx (xO ⟨fin,x.flow⟩ ⟨hx4.1,hfin64⟩ Hk.out.q hm hwd) 3 3 rfl rfl Sd.out).mono ?_
   rintro e w5 ⟨rfl,s11⟩
   refine hK _ _ ?_;have S11:=zd s11;clear hK K h0 s11 Sd
   try simp only[Act.put,ag,ah,aj,aF,aB,aC]
   refine wpAny_done (by kernel_rfl) ?_ _
   go_wp2
   go_ret
   refine Ends.mk [box L [.bool true,J o,Ju key] 138,box X [J x.flow,Ju x.r,Ju fin,Ju pl] 300] ?_;rw[Hr2.out];have s12:Scope S w0 w5 (nT p wd ⟨(k.q.push wd ⟨fin,x.flow⟩).1,k.v,mx,k.served+1,upd k.th o y,k.ow,(false,0,0)⟩ c++[bP,box L [.bool true,J o,Ju key] 138,box X [J x.flow,Ju x.r,Ju fin,Ju pl] 300]):=S11.out
   exact s12.kT
end
theorem rY.wake {k:Co} {m:Nat} (h:rY k m) (wd:Nat) {obj:Int} {o:Ob} (hobj:I64 obj) (hf:I64 o.flow) (hr:o.r<18446744073709551616):rY (k.wake wd obj o) (m+1):=by
 have okx:okI ⟨max k.v (k.th obj).finish,o.flow⟩:=⟨hf,by have h1:=h.v;have h2:=(h.th obj).2.2.1;simp only;omega⟩
 have hs:=h.served;unfold Co.wake
 split
 ·refine⟨h.q.push wd okx,h.v,h.most,fun i=>?_,fun i=>?_,h.last,by simp only;omega⟩
  ·by_cases e:i=obj
   ·subst e;simp only[upd_same];exact⟨hf,hr,(h.th i).2.2⟩
   ·simp only[upd_ne _ _ e];exact h.th i
  ·by_cases e:i=o.flow
   ·subst e;simp only[upd_same];exact hobj
   ·simp only[upd_ne _ _ e];exact h.ow i
 ·exact⟨⟨h.q.pos,h.q.most,h.q.tour,h.q.leaves,fun s hs=>(h.q.sh s hs).le' (by omega)⟩,h.v,h.most,h.th,h.ow,h.last,by omega⟩
theorem rY.pick {k:Co} {m:Nat} (h:rY k m) (wd:Nat):rY (k.pick wd).1 m:=by
 unfold Co.pick
 cases hq:(k.q.pop wd).2 with
 |none=>exact⟨h.q,by have h1:=h.v;have h2:=h.most;simp only;omega,h.most,h.th,h.ow,h.last,h.served⟩
 |some x=>exact⟨h.q.pop wd,(Ci h.q wd hq).2,h.most,h.th,h.ow,⟨h.ow _,(Ci h.q wd hq).2⟩,h.served⟩
theorem rY.done {k:Co} {m:Nat} (h:rY k m) (wd:Nat) (size:Int) (more:Bool):rY (k.done wd size more) (m+1):=by
 have hs:=h.served;have hle:zy k.q (m+1):=⟨h.q.pos,h.q.most,h.q.tour,h.q.leaves,fun s hs=>(h.q.sh s hs).le' (by omega)⟩
 unfold Co.done
 split
 ·exact⟨hle,h.v,h.most,h.th,h.ow,h.last,by omega⟩
 ·obtain⟨y,hy⟩:∃ y,y=(k.th k.last.2.1).served k.last.2.2 size:=⟨_,rfl⟩
  simp only
  rw[←hy];have hth:=h.th k.last.2.1;have hyf:I64 y.flow∧y.r<18446744073709551616∧y.finish<18446744073709551616∧y.place<18446744073709551616:=by
   rw[hy]
   exact⟨hth.1,hth.2.1,KU _ _,Nat.mod_lt _ (by omega)⟩
  refine⟨?_,h.v,by have h1:=h.most;have h2:=hyf.2.2.1;simp only;omega,fun i=>?_,h.ow,by simp[I64],by simp only;omega⟩
  ·simp only
   split
   ·exact h.q.push wd ⟨hyf.1,hyf.2.2.1⟩
   ·exact hle
  ·by_cases e:i=k.last.2.1
   ·subst e;simp only[upd_same];exact hyf
   ·simp only[upd_ne _ _ e];exact h.th i
section
variable {p wd:Nat} {k:Co}
theorem Td:Does prog [eP p wd k] 241 #[ptr p] (Ju k.v) [eP p wd k]:=Does.ax fun S w0 w h=>by
 obtain⟨c,s0⟩:=Scope.o6 h;have c0:At w p 3 (Ju k.v):=(s0.row (k:=p) 0 rfl).cell rfl;have H:=zd h;clear h s0
 go_enter func241,ntmps241
 go_wp2
 go_ret
 exact Ends.mk [] H.out
theorem BD:Does prog [eP p wd k] 240 #[ptr p] (J k.served) [eP p wd k]:=Does.ax fun S w0 w h=>by
 obtain⟨c,s0⟩:=Scope.o6 h;have c0:At w p 5 (J k.served):=(s0.row (k:=p) 0 rfl).cell rfl;have H:=zd h;clear h s0
 go_enter func240,ntmps240
 go_wp2
 go_ret
 exact Ends.mk [] H.out
def Tj (S:List Nat) (w0:World) (wd n:Nat) (As:List HA) (e:Ending) (w':World):Prop:=∃ p,e=.returned (ptr p)∧Scope S w0 w' (eP p wd (.new n)::As)
theorem mZ {S:List Nat} {w0 w:World} {As:List HA} {n:Nat} (h1:1≤n) (h4:n≤4) (hwd:wd≤40) (sl wk:Int) (un:Nat) (h:Scope S w0 w As):Calls prog 37 #[O8 n sl wk wd un] w (Tj S w0 wd n As):=by
 have hmm:= @run_makeMap prog;have s1:=h.box [J n,J sl,J wk,J wd,Ju un] 24;have H:=zd s1;clear h s1
 go_enter func37,ntmps37
 go_wp2_with fail
 refine(JD h1 h4 hwd H.out).mono ?_
 rintro e w1 ⟨pq,rfl,s2⟩
 have S2:=zd s2;clear s2 H
 go_wp2
 go_ret
 obtain⟨W1,hW1⟩:∃ W1,W1=w1.alloc (.map #[] 0):=⟨_,rfl⟩
 have s3:Scope S w0 W1 ([wu w1.heap.size (fun _=>.zero)]++(dR pq wd (.new n)::(As++[box w.heap.size [J n,J sl,J wk,J wd,Ju un] 24]))):=by
  rw[hW1]
  exact S2.out.joinL (g:=[w1.heap.size]) (dh (A:=wu w1.heap.size (fun _=>.zero)) ⟨⟨_,fM.made _ _ w1,fun id=>rfl⟩,rfl⟩) ((dE.refl _ _).alloc _) (by simp)
 have hsz:W1.heap.size=w1.heap.size+1:=by rw[hW1];simp
 have s4:Scope S w0 (W1.alloc (.map #[] 0)) ([jT W1.heap.size (fun _=>0)]++([wu w1.heap.size (fun _=>.zero)]++(dR pq wd (.new n)::(As++[box w.heap.size [J n,J sl,J wk,J wd,Ju un] 24])))):=
  s3.joinL (g:=[W1.heap.size]) (dh (A:=jT W1.heap.size (fun _=>0)) ⟨⟨_,fM.made _ _ W1,fun id=>rfl⟩,rfl⟩) ((dE.refl _ _).alloc _) (by simp)
 have s5:=s4.box [.func (.func 46) #[ptr pq] #[],.func (.func 47) #[ptr pq] #[],.func (.func 48) #[ptr pq] #[],Ju 0,Ju 0,J 0,.map (some w1.heap.size),.map (some (w1.heap.size+1)),.bool false,J 0,Ju 0] 140;rw[show(W1.alloc (.map #[] 0)).heap.size=w1.heap.size+1+1 by simp[hsz],hsz]at s5;refine⟨w1.heap.size+1+1,rfl,?_⟩;rw[←hW1];obtain⟨V,hV⟩:∃ V,V=(W1.alloc (.map #[] 0)).alloc (.cells [.func (.func 46) #[ptr pq] #[],.func (.func 47) #[ptr pq] #[],.func (.func 48) #[ptr pq] #[],Ju 0,Ju 0,J 0,.map (some w1.heap.size),.map (some (w1.heap.size+1)),.bool false,J 0,Ju 0].toArray 140):=⟨_,rfl⟩
 rw[←hV]at s5
 show Scope S w0 _ (eP (w1.heap.size+1+1) wd (.new n)::As)
 rw[show(W1.alloc (.map #[] 0)).alloc (.cells #[.func (.func 46) #[ptr pq] #[],.func (.func 47) #[ptr pq] #[],.func (.func 48) #[ptr pq] #[],Ju 0,Ju 0,J 0,.map (some w1.heap.size),.map (some (w1.heap.size+1)),.bool false,J 0,Ju 0] 140)=V from hV.symm];have s6:Scope S w0 V (C9 (w1.heap.size+1+1) (.new n) ⟨pq,w1.heap.size,w1.heap.size+1⟩::jT (w1.heap.size+1) (fun _=>0)::wu w1.heap.size (fun _=>.zero)::dR pq wd (.new n)::(As++[box w.heap.size [J n,J sl,J wk,J wd,Ju un] 24])):=
  s5.perm (List.perm_append_comm (l₁:=jT (w1.heap.size+1) (fun _=>0)::wu w1.heap.size (fun _=>.zero)::dR pq wd (.new n)::(As++[box w.heap.size [J n,J sl,J wk,J wd,Ju un] 24])))
 have s7:Scope S w0 V ((nT (w1.heap.size+1+1) wd (.new n) ⟨pq,w1.heap.size,w1.heap.size+1⟩++As)++[box w.heap.size [J n,J sl,J wk,J wd,Ju un] 24]):=
  s6.perm (List.Perm.cons _ (List.Perm.swap _ _ _))
 exact s7.drop.kT
end
def nG (nx:Int→Int) (o v:Int):Int→Int:=fun j=>if j=o then v else nx j
theorem RZ (w:World):(zeroValue 22).run prog w=.ok (Ju 0) w:=by kernel_rfl
section
variable {S:List Nat} {w0 w:World} {A X:HA} {Bs:List HA} {b:Nat} {nx:Int→Int}
theorem Scope.Rx (h:Scope S w0 w (A::X::dG b nx::Bs)) {obj:Int} (ho:I64 obj):(Instr.lookup 120 (.map (some b)) (J obj) false).run prog w=.ok (Ju (nx obj)) w:=by
 obtain⟨f,⟨⟨n,g,h1,h2,h3⟩,_⟩,_⟩:=h.get 2 rfl;obtain⟨l,hl⟩:=keyOf_int ho;have h4:=h1.lookup (t:=120) vG underlying120 (RZ w) hl;have h5:(g (J obj)).getD (Ju 0)=Ju (nx obj):=by
  rw[←h3 obj ho]
  cases hg:g (J obj)with
  |none=>rfl
  |some y=>obtain⟨a,rfl⟩:=h2 _ _ hg;rfl
 rw[h5]at h4
 exact h4
theorem Scope.Rq (h:Scope S w0 w (A::X::dG b nx::Bs)) {obj:Int} (ho:I64 obj) (next:Int):∃ n g,dD prog 3 w b n g∧
  ∀ w3,dD prog 3 w3 b (n+1) (fun x=>open Classical in if x=J obj then some (Ju next)else g x)→dE [b] w w3→Scope S w0 w3 (A::X::dG b (nG nx obj next)::Bs):=by
 have h':Scope S w0 w ([A,X]++([dG b nx]++Bs)):=h;obtain⟨f,hf,hd⟩:=h'.swap.does;obtain⟨⟨n,g,h1,h2,h3⟩,rfl⟩:=bZ hf;refine⟨n,g,h1,fun w3 m3 c3=>?_⟩;have h4:Scope S w0 w3 ([dG b (nG nx obj next)]++([A,X]++Bs)):=hd _ _ (After.intro1 (A:=dG b (nG nx obj next)) ⟨[b],⟨⟨n+1,_,m3,fun x y hx=>?_,fun o hO=>?_⟩,rfl⟩,c3,Own.refl _ _⟩)
 ·exact h4.swap
 ·by_cases e:x=J obj
  ·have hx:=(if_pos e).symm.trans hx
   exact⟨next,by simpa using hx.symm⟩
  ·have hx:=(if_neg e).symm.trans hx
   exact h2 x y hx
 ·unfold nG
  by_cases e:o=obj
  ·subst e;simp[numN]
  ·have ne:(J o)≠J obj:=fun h=>e (by simpa using h)
   simp only[if_neg e,if_neg ne]
   exact h3 o hO
end
section
variable {p m b q x n kb:Nat} {sh:Int} {σ:MS} {nx:Int→Int} {vK vV:Value} {kv:List (Int×Int)}
set_option maxHeartbeats 1000000 in
theorem IL (who obj next:Int) (ho:I64 obj) (hl:σ.log.length≤1000000):
  Does prog [inA p m b sh σ nx] 278 #[ptr p,J who,J obj,Ju next] (.tuple #[]) [inA p m b sh (σ.put who 6 (tN obj)) (nG nx obj next)]:=Does.pack fun S w0 w h=>by
 have g0:w.cell? ⟨p,0,none⟩=some (ptr m):=(h.row 1 rfl).cell rfl;have g1:w.cell? ⟨p,4,none⟩=some (.func (.func 44) #[J 14] #[]):=(h.row 1 rfl).cell rfl;have g2:w.cell? ⟨p,2,none⟩=some (.map (some b)):=(h.row 1 rfl).cell rfl;have H0:=zd h.drew;clear h
 go_enter func278,ntmps278
 go_wp2_with fail
 go_region_held3 (fun w'=>w'.cell? ⟨p,0,none⟩=some (ptr m)∧w'.cell? ⟨p,4,none⟩=some (.func (.func 44) #[J 14] #[])) (go_keep)
  (first
   |(go_at_call 44
     refine((kU 14 obj).at (Hid.out (by assumption))).mono ?_
     rintro e wq ⟨rfl,sq⟩
     have g0:wq.cell? ⟨p,0,none⟩=some (ptr m):=(sq.row 1 rfl).cell rfl;have g1:wq.cell? ⟨p,4,none⟩=some (.func (.func 44) #[J 14] #[]):=(sq.row 1 rfl).cell rfl;have g2:wq.cell? ⟨p,2,none⟩=some (.map (some b)):=(sq.row 1 rfl).cell rfl;have Hq:=zd sq
     clear sq)
   |(go_at_call 141
     refine((nO who (tN obj) hl).at0 (Hid.out (by assumption))).mono ?_
     rintro e wz ⟨rfl,sz⟩
     have g0:wz.cell? ⟨p,0,none⟩=some (ptr m):=(sz.row 1 rfl).cell rfl;have g1:wz.cell? ⟨p,4,none⟩=some (.func (.func 44) #[J 14] #[]):=(sz.row 1 rfl).cell rfl;have g2:wz.cell? ⟨p,2,none⟩=some (.map (some b)):=(sz.row 1 rfl).cell rfl;have Hz:=zd sz
     clear sz))
 obtain⟨k,g,hm,hp⟩:=Hz.out.Rq ho next;have Hp:=zd hp;obtain⟨l,hk⟩:=keyOf_int ho;clear hp
 go_wp2_with (at_mapUpdate;refine jV _ rfl _ _ _ 120 rfl 3 22 vG underlying120 b k g rfl hm _ _ l rfl rfl hk ?_;intro w3 m3 c3;have P3:=zd (Hp.out w3 m3 c3);clear m3 c3)
 go_end0
 exact Ends.mk [] (by simpa using P3.out)
set_option maxHeartbeats 1000000 in
theorem Gi (who obj:Int) (ho:I64 obj) (hl:σ.log.length≤1000000):
  Does prog [inA p m b sh σ nx] 273 #[ptr p,J who,J obj] (Ju (nx obj)) [inA p m b sh (σ.put who 5 (tN obj)) nx]:=Does.pack fun S w0 w h=>by
 have g0:w.cell? ⟨p,0,none⟩=some (ptr m):=(h.row 1 rfl).cell rfl;have g1:w.cell? ⟨p,4,none⟩=some (.func (.func 44) #[J 14] #[]):=(h.row 1 rfl).cell rfl;have g2:w.cell? ⟨p,2,none⟩=some (.map (some b)):=(h.row 1 rfl).cell rfl;have H0:=zd h.drew;clear h
 go_enter func273,ntmps273
 go_wp2_with fail
 go_region_held3 (fun w'=>w'.cell? ⟨p,0,none⟩=some (ptr m)∧w'.cell? ⟨p,4,none⟩=some (.func (.func 44) #[J 14] #[])) (go_keep)
  (first
   |(go_at_call 44
     refine((kU 14 obj).at (Hid.out (by assumption))).mono ?_
     rintro e wq ⟨rfl,sq⟩
     have g0:wq.cell? ⟨p,0,none⟩=some (ptr m):=(sq.row 1 rfl).cell rfl;have g1:wq.cell? ⟨p,4,none⟩=some (.func (.func 44) #[J 14] #[]):=(sq.row 1 rfl).cell rfl;have g2:wq.cell? ⟨p,2,none⟩=some (.map (some b)):=(sq.row 1 rfl).cell rfl;have Hq:=zd sq
     clear sq)
   |(go_at_call 187
     refine((oO who (tN obj) hl).at0 (Hid.out (by assumption))).mono ?_
     rintro e wz ⟨rfl,sz⟩
     have g0:wz.cell? ⟨p,0,none⟩=some (ptr m):=(sz.row 1 rfl).cell rfl;have g1:wz.cell? ⟨p,4,none⟩=some (.func (.func 44) #[J 14] #[]):=(sz.row 1 rfl).cell rfl;have g2:wz.cell? ⟨p,2,none⟩=some (.map (some b)):=(sz.row 1 rfl).cell rfl;have Hz:=zd sz
     clear sz))
 have hrun:=Hz.out.Rx ho
 go_wp2
 go_ret
 exact Ends.mk [] (by simpa using Hz.out)
theorem BR:Does prog [inA p m b sh σ nx] 271 #[ptr p] (J sh) [inA p m b sh σ nx]:=Does.pack fun S w0 w h=>by
 have c0:At w p 1 (J sh):=(h.row 1 rfl).cell rfl;have H0:=zd h;clear h
 go_enter func271,ntmps271
 go_wp2
 go_ret
 exact Ends.mk [] (by simpa using H0.out)
end
def KO {β:Type} (S:List Nat) (w0:World) (r:Value) (Gl:β→List HA) (e:Ending) (w':World):Prop:=e=.returned r∧∃ b Js,Scope S w0 w' (Gl b++Js)
theorem KO.mk {β:Type} {S:List Nat} {w0 w':World} {r:Value} {Gl:β→List HA} (b:β) (Js:List HA) (h:Scope S w0 w' (Gl b++Js)):KO S w0 r Gl (.returned r) w':=⟨rfl,b,Js,h⟩
theorem KO.mk' {β:Type} {S:List Nat} {w0 w':World} {r r':Value} {Gl:β→List HA} (he:r=r') (b:β) (Js:List HA) (h:Scope S w0 w' (Gl b++Js)):KO S w0 r' Gl (.returned r) w':=by subst he;exact⟨rfl,b,Js,h⟩
section
variable {p m b q x n kb:Nat} {sh:Int} {σ:MS} {nx:Int→Int}
end
section
variable {P:Program} {f:FuncId} {args:Array Value} {r:Value} {A A':HA} {As As':List HA}
theorem MK {w:World} {fp:List Nat} (h:(aG [A,aG As]).holds w fp):(aG (A::As)).holds w fp:=by
 obtain⟨f,g,ha,hb,hd,rfl⟩:=h
 exact⟨f,g,ha,bZ hb,hd,rfl⟩
theorem DV {w:World} {fp:List Nat} (h:(aG (A::As)).holds w fp):(aG [A,aG As]).holds w fp:=by
 obtain⟨f,g,ha,hb,hd,rfl⟩:=h
 exact⟨f,g,ha,dh hb,hd,rfl⟩
theorem Does.group (d:Does P (A::As) f args r (A'::As')):Does P [A,aG As] f args r [A',aG As']:=fun w fp h=>
 (d w fp (MK h)).mono fun _ _ ⟨he,fp',h2,h3⟩=>⟨he,fp',DV h2,h3⟩
theorem Does.Uo (d:Does P [aG As] f args r [aG As']):Does P As f args r As':=fun w fp h=>
 (d w fp (dh h)).mono fun _ _ ⟨he,fp',h2,h3⟩=>⟨he,fp',bZ h2,h3⟩
theorem Does.split (d:Does P [aG (A::As)] f args r [aG (A'::As')]):Does P [A,aG As] f args r [A',aG As']:=d.Uo.group
theorem Does.VK {α:Type} {F G:α→HA} (d:∀ a,Does P [A,F a] f args r [A',G a]):Does P [A,uk F] f args r [A',uk G]:=fun w fp h=>by
 obtain⟨f1,g1,ha,hb,hd,rfl⟩:=h;obtain⟨a,h1⟩:=bZ hb;refine(d a w _ ⟨f1,g1,ha,dh h1,hd,rfl⟩).mono fun _ _ ⟨he,fp',h2,h3⟩=>⟨he,fp',?_,h3⟩
 obtain⟨f2,g2,k1,k2,k3,rfl⟩:=h2
 exact⟨f2,g2,k1,dh (A:=uk G) ⟨a,bZ k2⟩,k3,rfl⟩
theorem Does.oh {α:Type} {F G:α→List HA} (d:Does P [uk fun a=>aG (A::F a)] f args r [uk fun a=>aG (A'::G a)]):Does P [A,uk fun a=>aG (F a)] f args r [A',uk fun a=>aG (G a)]:=fun w fp h=>by
 obtain⟨f1,g1,ha,hb,hd,rfl⟩:=h;obtain⟨a,h1⟩:=bZ hb;refine(d w (f1++g1) (dh (A:=uk fun a=>aG (A::F a)) ⟨a,f1,g1,ha,h1,hd,rfl⟩)).mono fun _ _ ⟨he,fp',h2,h3⟩=>⟨he,fp',?_,h3⟩
 obtain⟨b,f2,g2,k1,k2,k3,rfl⟩:=bZ h2
 exact⟨f2,g2,k1,dh (A:=uk fun a=>aG (G a)) ⟨b,k2⟩,k3,rfl⟩
variable {S:List Nat} {w0 w:World} {L:List HA}
theorem Does.hd {B B':HA} (d:Does P [A,B] f args r [A',B']) (j:Nat) (hj:L[j]? =some B) (h:Scope S w0 w (A::L)):
  Calls P f args w fun e w'=>e=.returned r∧Scope S w0 w' (A'::L.set j B'):=by
 have p1:(A::L).Perm (A::B::L.eraseIdx j):=List.Perm.cons _ (jF j L B hj);refine(d.call (As:=[A,B]) (As':=[A',B']) (Bs:=L.eraseIdx j) (h.perm p1)).mono fun _ _ ⟨he,h2⟩=>⟨he,?_⟩
 exact Scope.perm (As:=A'::B'::L.eraseIdx j) h2 (List.Perm.cons _ (qK j L B' (List.getElem?_eq_some_iff.1 hj).1))
end
structure PA where
 P:Nat
 m:Nat
 ib:Nat
 nb:Nat
 tb:Nat
 po:Nat
 ba:Nat
 br:Nat
 co:Nat
 mp:Nat
 sh:Nat
 sl:Nat
 wk:Nat
 wd:Nat
 un:Nat
structure mO where
 o:Ob
 cs:List Pk
structure Pt where
 step:Int
 who:Int
 place:Int
 r:Rt
structure PS where
 σ:MS
 nx:Int→Int
 kc:List (Int×Cl)
 jr:List (Int×Rt)
 k:Co
 ob:List mO
 pl:Int→Int
 pt:List Pt
structure Gh where
 vo:Value
 vp:Value
 sv:List Value
@[reducible] def rZ (A:PA) (c:Gh):HA:=box A.P [ptr A.m,ptr A.ib,ptr A.tb,ptr A.po,ptr A.co,J A.sh,J A.sl,J A.wk,J A.wd,Ju A.un,c.vo,.map (some A.mp),c.vp] 76
@[reducible] def OI (A:PA) (nx:Int→Int):HA:=aG [box A.ib [ptr A.m,J A.sh,.map (some A.nb),.func (.func 44) #[J 9] #[],.func (.func 44) #[J 14] #[]] 124,dG A.nb nx]
@[reducible] def LP (A:PA):HA:=aG [box A.tb [ptr A.m,J A.sh,J A.sl] 126]
@[reducible] def LD (A:PA) (kc:List (Int×Cl)) (jr:List (Int×Rt)):HA:=uk fun F=>aG [box A.po [ptr A.m,J A.wk,.map (some A.ba),.map (some A.br)] 130,iE A.ba kc,ik A.br F jr]
def ql (x:mO×Nat):List Value:=[J x.1.o.flow,J x.1.o.most,Ju x.1.o.r,ptr x.2]
theorem rJ (x:mO×Nat):(ql x).length=4:=rfl
def gG (x:Pt×Value):List Value:=[J x.1.step,J x.1.who,J x.1.place,J x.1.r.e,x.2,J x.1.r.n,Ju x.1.r.v]
theorem yK (x:Pt×Value):(gG x).length=7:=rfl
def jW (pt:List Pt) (sv:List Value):List HA:=List.zipWith (fun x v=>aU v 64 3 x.r.pk.length (iU x.r.pk)) pt sv
@[reducible] def uy (r m:Nat) (obj:Int) (cs:List Pk):HA:=uk fun g=>aG [rb r m obj g cs.length,gb g cs]
def rings (m:Nat) (rs:List Nat) (ob:List mO):List HA:=List.zipWith (fun x o=>uy x.1 m (x.2:Nat) o.cs) rs.zipIdx ob
@[reducible] def vM (c:Gh) (rs:List Nat) (ob:List mO):HA:=aU c.vo 261 4 ob.length (recs ql (List.zip ob rs))
@[reducible] def yG (c:Gh) (pt:List Pt):HA:=aU c.vp 114 7 pt.length (recs gG (List.zip pt c.sv))
@[reducible] def eX (A:PA) (rs:List Nat) (s:PS) (c:Gh):List HA:=rZ A c::OI A s.nx::LP A::LD A s.kc s.jr::eP A.co A.wd s.k::jT A.mp s.pl::vM c rs s.ob::yG c s.pt::aG (jW s.pt c.sv)::rings A.m rs s.ob
@[reducible] def Cj (A:PA) (rs:List Nat) (s:PS) (c:Gh):List HA:=bF A.m s.σ::eX A rs s c
structure Uj (rs:List Nat) (s:PS) (c:Gh):Prop where
 rs:rs.length=s.ob.length
 sv:c.sv.length=s.pt.length
@[reducible] def ae (A:PA) (rs:List Nat) (s:PS):HA:=uk fun c=>Dy (Uj rs s c) (aG (Cj A rs s c))
section
variable {S:List Nat} {w0 w:World} {A:PA} {rs:List Nat} {s:PS} {Bs:List HA}
theorem Scope.dH (h:Scope S w0 w (ae A rs s::Bs)):∃ c,Uj rs s c∧Scope S w0 w (bF A.m s.σ::(eX A rs s c++Bs)):=by
 obtain⟨c,s1⟩:=Scope.xq (F:=fun c=>Dy (Uj rs s c) (aG (Cj A rs s c))) h;obtain⟨hF,s2⟩:=s1.DT
 exact⟨c,hF,Scope.gU s2⟩
theorem Scope.gJ {c:Gh} (hF:Uj rs s c) (h:Scope S w0 w (bF A.m s.σ::(eX A rs s c++Bs))):Scope S w0 w (ae A rs s::Bs):=
 Scope.tX (F:=fun c=>Dy (Uj rs s c) (aG (Cj A rs s c))) c (Scope.Dv hF (Scope.shut1 (As:=Cj A rs s c) h))
structure UJ (A:PA) (w:World):Prop where
 m:w.cell? ⟨A.P,0,none⟩=some (ptr A.m)
 ib:w.cell? ⟨A.P,1,none⟩=some (ptr A.ib)
 tb:w.cell? ⟨A.P,2,none⟩=some (ptr A.tb)
 po:w.cell? ⟨A.P,3,none⟩=some (ptr A.po)
 co:w.cell? ⟨A.P,4,none⟩=some (ptr A.co)
 un:w.cell? ⟨A.P,9,none⟩=some (Ju A.un)
 lt:A.P<w.heap.size
theorem Scope.bT {As:List HA} (h:Scope S w0 w As) (i:Nat) (hi:As[i]? =some (ae A rs s)):UJ A w:=by
 obtain⟨c,hF,s1⟩:=(h.front i hi).dH;have r:=s1.row (k:=A.P) 1 rfl
 exact⟨r.cell rfl,r.cell rfl,r.cell rfl,r.cell rfl,r.cell rfl,r.cell rfl,r.lt⟩
variable {f:FuncId} {args:Array Value} {r:Value}
theorem Does.lift {B B':HA} {s':PS} (j:Nat) (hB:∀ c:Gh,(eX A rs s c)[j]? =some B) (hs:∀ c,(eX A rs s c).set j B'=eX A rs s' c) (ho:s'.ob=s.ob) (hp:s'.pt=s.pt) (d:Does prog [bF A.m s.σ,B] f args r [bF A.m s'.σ,B']):
  Does prog [ae A rs s] f args r [ae A rs s']:=Does.ax fun S w0 w h=>by
 obtain⟨c,hF,s1⟩:=h.dH;have hj:=(List.getElem?_eq_some_iff.1 (hB c)).1;refine(Does.hd d j (by rw[List.getElem?_append_left hj];exact hB c) s1).mono ?_
 rintro e w' ⟨rfl,s2⟩
 rw[List.set_append_left _ _ hj,hs c]at s2
 exact Ends.mk [] (s2.gJ (rs:=rs) (s:=s') (c:=c) ⟨by rw[ho];exact hF.rs,by rw[hp];exact hF.sv⟩)
theorem Does.Ll {σ':MS} (d:Does prog [bF A.m s.σ] f args r [bF A.m σ']):Does prog [ae A rs s] f args r [ae A rs { s with σ:=σ' }]:=Does.ax fun S w0 w h=>by
 obtain⟨c,hF,s1⟩:=h.dH;refine(d.at0 s1).mono ?_
 rintro e w' ⟨rfl,s2⟩
 exact Ends.mk [] (s2.gJ (rs:=rs) (s:={ s with σ:=σ' }) (c:=c) ⟨hF.rs,hF.sv⟩)
end
section
variable {A:PA} {rs:List Nat} {s:PS}
theorem qQ (who k:Int) (hk:I64 k) (hl:s.σ.log.length≤1000000):Does prog [ae A rs s] 137 #[ptr A.tb,J who,J k] (.bool (decide (s.σ.num (ja k)=0))) [ae A rs { s with σ:=s.σ.swap who (ja k) 0 1 }]:=
 Does.lift (s':={ s with σ:=s.σ.swap who (ja k) 0 1 }) 2 (fun _=>rfl) (fun _=>rfl) rfl rfl (JA (p:=A.tb) (m:=A.m) (sh:=A.sh) (sl:=A.sl) who k hk hl).split
theorem sF (who k:Int) (hk:I64 k) (hl:s.σ.log.length≤1000000):Does prog [ae A rs s] 197 #[ptr A.tb,J who,J k] (.tuple #[]) [ae A rs { s with σ:=(s.σ.put who 2 (ja k)).set (ja k) 0 }]:=
 Does.lift (s':={ s with σ:=(s.σ.put who 2 (ja k)).set (ja k) 0 }) 2 (fun _=>rfl) (fun _=>rfl) rfl rfl (CV (p:=A.tb) (m:=A.m) (sh:=A.sh) (sl:=A.sl) who k hk hl).split
theorem CW (who k i:Int) (hk:I64 k) (hi:I64 i) (hl:s.σ.log.length≤1000000):Does prog [ae A rs s] 235 #[ptr A.tb,J who,J k,J i] (.tuple #[]) [ae A rs { s with σ:=(s.σ.put who 2 (slotL k i)).set (slotL k i) 0 }]:=
 Does.lift (s':={ s with σ:=(s.σ.put who 2 (slotL k i)).set (slotL k i) 0 }) 2 (fun _=>rfl) (fun _=>rfl) rfl rfl (D8 (p:=A.tb) (m:=A.m) (sh:=A.sh) (sl:=A.sl) who k i hk hi hl).split
theorem Jj (who k i flow obj:Int) (hk:I64 k) (hi:I64 i) (ho:I64 obj) (hl:s.σ.log.length≤1000000):Does prog [ae A rs s] 217 #[ptr A.tb,J who,J k,J i,J flow,J obj] (.bool (yN flow obj)) [ae A rs { s with σ:=s.σ.uf who k i flow obj }]:=
 Does.lift (s':={ s with σ:=s.σ.uf who k i flow obj }) 2 (fun _=>rfl) (fun _=>rfl) rfl rfl (LQ (p:=A.tb) (m:=A.m) (sh:=A.sh) (sl:=A.sl) who k i flow obj hk hi ho hl).split
theorem wO (who k i:Int) (hk:I64 k) (hi:I64 i) (hl:s.σ.log.length≤1000000) (hu:dC (s.σ.num (slotL k i))):Does prog [ae A rs s] 162 #[ptr A.tb,J who,J k,J i] (uM (s.σ.num (slotL k i))) [ae A rs { s with σ:=s.σ.put who 1 (slotL k i) }]:=
 Does.lift (s':={ s with σ:=s.σ.put who 1 (slotL k i) }) 2 (fun _=>rfl) (fun _=>rfl) rfl rfl (IJ (p:=A.tb) (m:=A.m) (sh:=A.sh) (sl:=A.sl) who k i hk hi hl hu).split
theorem zh (who:Int) (hl:s.σ.log.length≤1000000):Does prog [ae A rs s] 257 #[ptr A.ib,J who] (Ju (s.σ.num df)) [ae A rs { s with σ:=s.σ.put who 1 df }]:=
 Does.lift (s':={ s with σ:=s.σ.put who 1 df }) 1 (fun _=>rfl) (fun _=>rfl) rfl rfl (LX (p:=A.ib) (m:=A.m) (b:=A.nb) (sh:=A.sh) (nx:=s.nx) who hl).split
theorem BO (who:Int) (hl:s.σ.log.length≤1000000):Does prog [ae A rs s] 231 #[ptr A.ib,J who] (.tuple #[]) [ae A rs { s with σ:=(s.σ.put who 3 df).set df (IntKind.u64.wrap (s.σ.num df+4294967296)) }]:=
 Does.lift (s':={ s with σ:=(s.σ.put who 3 df).set df (IntKind.u64.wrap (s.σ.num df+4294967296)) }) 1 (fun _=>rfl) (fun _=>rfl) rfl rfl (Ed (p:=A.ib) (m:=A.m) (b:=A.nb) (sh:=A.sh) (nx:=s.nx) who hl).split
theorem zg (who:Int) (hl:s.σ.log.length≤1000000):Does prog [ae A rs s] 263 #[ptr A.ib,J who] (.tuple #[]) [ae A rs { s with σ:=(s.σ.put who 3 df).set df (IntKind.u64.wrap (s.σ.num df+1)) }]:=
 Does.lift (s':={ s with σ:=(s.σ.put who 3 df).set df (IntKind.u64.wrap (s.σ.num df+1)) }) 1 (fun _=>rfl) (fun _=>rfl) rfl rfl (Oz (p:=A.ib) (m:=A.m) (b:=A.nb) (sh:=A.sh) (nx:=s.nx) who hl).split
theorem JY (who k:Int) (hk:I64 k) (hl:s.σ.log.length≤1000000):Does prog [ae A rs s] 275 #[ptr A.ib,J who,J k] (Ju (s.σ.num (fB k))) [ae A rs { s with σ:=s.σ.put who 1 (fB k) }]:=
 Does.lift (s':={ s with σ:=s.σ.put who 1 (fB k) }) 1 (fun _=>rfl) (fun _=>rfl) rfl rfl (Nh (p:=A.ib) (m:=A.m) (b:=A.nb) (sh:=A.sh) (nx:=s.nx) who k hk hl).split
theorem FN (who k:Int) (hk:I64 k) (hl:s.σ.log.length≤1000000):Does prog [ae A rs s] 265 #[ptr A.ib,J who,J k] (Ju (s.σ.num (fB k))) [ae A rs { s with σ:=(s.σ.put who 3 (fB k)).set (fB k) 0 }]:=
 Does.lift (s':={ s with σ:=(s.σ.put who 3 (fB k)).set (fB k) 0 }) 1 (fun _=>rfl) (fun _=>rfl) rfl rfl (IB (p:=A.ib) (m:=A.m) (b:=A.nb) (sh:=A.sh) (nx:=s.nx) who k hk hl).split
theorem DU (who k top obj:Int) (hk:I64 k) (hl:s.σ.log.length≤1000000):Does prog [ae A rs s] 285 #[ptr A.ib,J who,J k,Ju top,J obj] (.bool (decide (s.σ.num (fB k)=top))) [ae A rs { s with σ:=s.σ.swap who (fB k) top (CO obj) }]:=
 Does.lift (s':={ s with σ:=s.σ.swap who (fB k) top (CO obj) }) 1 (fun _=>rfl) (fun _=>rfl) rfl rfl (JS (p:=A.ib) (m:=A.m) (b:=A.nb) (sh:=A.sh) (nx:=s.nx) who k top obj hk hl).split
theorem DL (who obj next:Int) (ho:I64 obj) (hl:s.σ.log.length≤1000000):Does prog [ae A rs s] 278 #[ptr A.ib,J who,J obj,Ju next] (.tuple #[]) [ae A rs { s with σ:=s.σ.put who 6 (tN obj),nx:=nG s.nx obj next }]:=
 Does.lift (s':={ s with σ:=s.σ.put who 6 (tN obj),nx:=nG s.nx obj next }) 1 (fun _=>rfl) (fun _=>rfl) rfl rfl (IL (p:=A.ib) (m:=A.m) (b:=A.nb) (sh:=A.sh) (nx:=s.nx) who obj next ho hl).split
theorem Fb (who obj:Int) (ho:I64 obj) (hl:s.σ.log.length≤1000000):Does prog [ae A rs s] 273 #[ptr A.ib,J who,J obj] (Ju (s.nx obj)) [ae A rs { s with σ:=s.σ.put who 5 (tN obj) }]:=
 Does.lift (s':={ s with σ:=s.σ.put who 5 (tN obj) }) 1 (fun _=>rfl) (fun _=>rfl) rfl rfl (Gi (p:=A.ib) (m:=A.m) (b:=A.nb) (sh:=A.sh) (nx:=s.nx) who obj ho hl).split
theorem zT:Does prog [ae A rs s] 271 #[ptr A.ib] (J A.sh) [ae A rs s]:=
 Does.lift (s':=s) 1 (fun _=>rfl) (fun _=>rfl) rfl rfl (BR (p:=A.ib) (m:=A.m) (b:=A.nb) (sh:=A.sh) (nx:=s.nx) (σ:=s.σ)).split
theorem Fg (who:Int) (hw:I64 who) (hl:s.σ.log.length≤1000000):Does prog [ae A rs s] 143 #[ptr A.po,J who] (.tuple #[]) [ae A rs { s with σ:=(s.σ.put who 2 (fP who)).set (fP who) 1 }]:=
 Does.lift (s':={ s with σ:=(s.σ.put who 2 (fP who)).set (fP who) 1 }) 3 (fun _=>rfl) (fun _=>rfl) rfl rfl (IC (p:=A.po) (m:=A.m) (ba:=A.ba) (br:=A.br) (W:=A.wk) (KC:=s.kc) (JR:=s.jr) who hw hl).oh
theorem BG (who j:Int) (hj:I64 j) (hl:s.σ.log.length≤1000000):Does prog [ae A rs s] 256 #[ptr A.po,J who,J j] (.tuple #[]) [ae A rs { s with σ:=(s.σ.put who 2 (fP j)).set (fP j) 2 }]:=
 Does.lift (s':={ s with σ:=(s.σ.put who 2 (fP j)).set (fP j) 2 }) 3 (fun _=>rfl) (fun _=>rfl) rfl rfl (F6 (p:=A.po) (m:=A.m) (ba:=A.ba) (br:=A.br) (W:=A.wk) (KC:=s.kc) (JR:=s.jr) who j hj hl).oh
theorem Gu (who:Int) (hl:s.σ.log.length≤1000000):Does prog [ae A rs s] 176 #[ptr A.po,J who] (.bool (decide (s.σ.num iG=0))) [ae A rs { s with σ:=s.σ.swap who iG 0 1 }]:=
 Does.lift (s':={ s with σ:=s.σ.swap who iG 0 1 }) 3 (fun _=>rfl) (fun _=>rfl) rfl rfl (OG (p:=A.po) (m:=A.m) (ba:=A.ba) (br:=A.br) (W:=A.wk) (KC:=s.kc) (JR:=s.jr) who hl).oh
theorem BJ (who:Int) (hl:s.σ.log.length≤1000000):Does prog [ae A rs s] 238 #[ptr A.po,J who] (.tuple #[]) [ae A rs { s with σ:=(s.σ.put who 2 iG).set iG 0 }]:=
 Does.lift (s':={ s with σ:=(s.σ.put who 2 iG).set iG 0 }) 3 (fun _=>rfl) (fun _=>rfl) rfl rfl (FO (p:=A.po) (m:=A.m) (ba:=A.ba) (br:=A.br) (W:=A.wk) (KC:=s.kc) (JR:=s.jr) who hl).oh
theorem uY (who j:Int) (hj:I64 j) (hl:s.σ.log.length≤1000000):Does prog [ae A rs s] 201 #[ptr A.po,J who,J j] (Ju (s.σ.num (fP j))) [ae A rs { s with σ:=s.σ.put who 1 (fP j) }]:=
 Does.lift (s':={ s with σ:=s.σ.put who 1 (fP j) }) 3 (fun _=>rfl) (fun _=>rfl) rfl rfl (Dk (p:=A.po) (m:=A.m) (ba:=A.ba) (br:=A.br) (W:=A.wk) (KC:=s.kc) (JR:=s.jr) who j hj hl).oh
theorem xY:Does prog [ae A rs s] 219 #[ptr A.po] (J A.wk) [ae A rs s]:=
 Does.lift (s':=s) 3 (fun _=>rfl) (fun _=>rfl) rfl rfl (zB (p:=A.po) (m:=A.m) (ba:=A.ba) (br:=A.br) (W:=A.wk) (KC:=s.kc) (JR:=s.jr) (σ:=s.σ)).oh
theorem Jv (who:Int) (c:Cl) (hw:I64 who) (hl:s.σ.log.length≤1000000):Does prog [ae A rs s] 97 #[ptr A.po,J who,c.val] (.tuple #[]) [ae A rs { s with σ:=s.σ.put who 6 (qo who),kc:=s.kc++[(who,c)] }]:=
 Does.lift (s':={ s with σ:=s.σ.put who 6 (qo who),kc:=s.kc++[(who,c)] }) 3 (fun _=>rfl) (fun _=>rfl) rfl rfl (Ny (p:=A.po) (m:=A.m) (ba:=A.ba) (br:=A.br) (W:=A.wk) (KC:=s.kc) (JR:=s.jr) who c hw hl).oh
theorem IA (who j:Int) (hj:I64 j) (hl:s.σ.log.length≤1000000):Does prog [ae A rs s] 221 #[ptr A.po,J who,J j] (lastOf Cl.zero s.kc j).val [ae A rs { s with σ:=s.σ.put who 5 (qo j) }]:=
 Does.lift (s':={ s with σ:=s.σ.put who 5 (qo j) }) 3 (fun _=>rfl) (fun _=>rfl) rfl rfl (MQ (p:=A.po) (m:=A.m) (ba:=A.ba) (br:=A.br) (W:=A.wk) (KC:=s.kc) (JR:=s.jr) who j hj hl).oh
end
theorem sJ {α β γ:Type} (f:α→β→γ):∀ (l:List α) (l':List β) (i:Nat) (a:α) (b:β),l[i]? =some a→(List.zipWith f l l').set i (f a b)=List.zipWith f l (l'.set i b)
 | [],_,_,_,_,h=>by simp at h
 |_::_,[],_,_,_,_=>by simp
 |x::l,y::l',0,a,b,h=>by simp at h;subst h;simp
 |x::l,y::l',i+1,a,b,h=>by
  have:=sJ f l l' i a b (by simpa using h)
  simp only[List.zipWith_cons_cons,List.set_cons_succ];rw[this]
theorem yA {α:Type} {l:List α} {i:Nat} {x:α} (h:l[i]? =some x):l.zipIdx[i]? =some (x,i):=by simp[h]
section
variable {m:Nat} {rs:List Nat} {ob:List mO} {i r:Nat} {x:mO}
theorem NV (hr:rs[i]? =some r) (ho:ob[i]? =some x):(rings m rs ob)[i]? =some (uy r m (i:Nat) x.cs):=by
 unfold rings;rw[List.getElem?_zipWith,yA hr,ho]
theorem LV (hr:rs[i]? =some r) (cs':List Pk):(rings m rs ob).set i (uy r m (i:Nat) cs')=rings m rs (ob.set i ⟨x.o,cs'⟩):=
 sJ (fun(x:Nat×Nat) (o:mO)=>uy x.1 m (x.2:Nat) o.cs) rs.zipIdx ob i (r,i) ⟨x.o,cs'⟩ (yA hr)
theorem Jl (ho:ob[i]? =some x) (cs':List Pk):recs ql (List.zip (ob.set i ⟨x.o,cs'⟩) rs)=recs ql (List.zip ob rs):=by
 have e:∀ L:List (mO×Nat),recs ql L=recs (fun y:Ob×Nat=>[J y.1.flow,J y.1.most,Ju y.1.r,ptr y.2]) (L.map fun y=>(y.1.o,y.2)):=fun L=>by
  unfold recs;rw[List.flatMap_map]
  rfl
 rw[e,e]
 congr 1
 apply List.ext_getElem?
 intro j
 simp only[List.getElem?_map,List.zip,List.getElem?_zipWith]
 by_cases h:i=j
 ·subst h
  rw[List.getElem?_set_self (List.getElem?_eq_some_iff.1 ho).1,ho]
  cases rs[i]?<;>rfl
 ·rw[List.getElem?_set_ne h]
end
section
variable {A:PA} {rs:List Nat} {s:PS} {f:FuncId} {args:Array Value} {v:Value} {i r:Nat} {x:mO}
theorem wE (c:Gh) (hr:rs[i]? =some r) (ho:s.ob[i]? =some x):(eX A rs s c)[i+9]? =some (uy r A.m (i:Nat) x.cs):=NV hr ho
theorem Does.Uc {σ':MS} {cs':List Pk} (hr:rs[i]? =some r) (ho:s.ob[i]? =some x) (d:∀ g,Does prog [bF A.m s.σ,rb r A.m (i:Nat) g x.cs.length,gb g x.cs] f args v [bF A.m σ',rb r A.m (i:Nat) g cs'.length,gb g cs']):
  Does prog [ae A rs s] f args v [ae A rs { s with σ:=σ',ob:=s.ob.set i ⟨x.o,cs'⟩ }]:=Does.ax fun S w0 w h=>by
 obtain⟨c,hF,s1⟩:=h.dH;have hj:i+9<(eX A rs s c).length:=(List.getElem?_eq_some_iff.1 (wE c hr ho)).1;refine(Does.hd (Does.VK fun g=>(d g).group) (i+9) (by rw[List.getElem?_append_left hj];exact wE c hr ho) s1).mono ?_
 rintro e w' ⟨rfl,s2⟩
 rw[List.set_append_left _ _ hj]at s2;have e1:(eX A rs s c).set (i+9) (uy r A.m (i:Nat) cs')=eX A rs { s with σ:=σ',ob:=s.ob.set i ⟨x.o,cs'⟩ } c:=by
  show _::_::_::_::_::_::_::_::_::(rings A.m rs s.ob).set i (uy r A.m (i:Nat) cs')=_::_::_::_::_::_::vM c rs (s.ob.set i ⟨x.o,cs'⟩)::_::_::rings A.m rs (s.ob.set i ⟨x.o,cs'⟩)
  rw[LV (x:=x) hr cs']
  show _=_::_::_::_::_::_::aU c.vo 261 4 (s.ob.set i ⟨x.o,cs'⟩).length (recs ql (List.zip (s.ob.set i ⟨x.o,cs'⟩) rs))::_::_::_
  rw[Jl ho cs',List.length_set]
 rw[e1]at s2
 exact Ends.mk [] (s2.gJ (rs:=rs) (s:={ s with σ:=σ',ob:=s.ob.set i ⟨x.o,cs'⟩ }) (c:=c) ⟨by rw[hF.rs];simp,hF.sv⟩)
theorem Cb (ho:s.ob[i]? =some x):s.ob.set i ⟨x.o,x.cs⟩=s.ob:=yS ho
theorem Does.oD {σ':MS} (hr:rs[i]? =some r) (ho:s.ob[i]? =some x) (d:∀ g,Does prog [bF A.m s.σ,rb r A.m (i:Nat) g x.cs.length,gb g x.cs] f args v [bF A.m σ',rb r A.m (i:Nat) g x.cs.length,gb g x.cs]):
  Does prog [ae A rs s] f args v [ae A rs { s with σ:=σ' }]:=by
 have:=Does.Uc (cs':=x.cs) hr ho d
 rwa [Cb ho]at this
theorem jm {i:Nat} (h:i<1000000):I64 (i:Nat):=by unfold I64;omega
variable (hr:rs[i]? =some r) (ho:s.ob[i]? =some x) (hi:i<1000000) (hl:s.σ.log.length≤1000000) (c0:0<x.cs.length) (c8:x.cs.length≤1000)
include hr ho hi hl in
theorem nY (who:Int):Does prog [ae A rs s] 188 #[ptr r,J who] (Ju (s.σ.num (bQ (i:Nat)))) [ae A rs { s with σ:=s.σ.put who 1 (bQ (i:Nat)) }]:=Does.oD hr ho fun _=>KF who (jm hi) hl
include hr ho hi hl in
theorem wQ (who:Int):Does prog [ae A rs s] 207 #[ptr r,J who] (Ju (s.σ.num (jU (i:Nat)))) [ae A rs { s with σ:=s.σ.put who 1 (jU (i:Nat)) }]:=Does.oD hr ho fun _=>JE who (jm hi) hl
include hr ho hi hl in
theorem DR (who y:Int):Does prog [ae A rs s] 291 #[ptr r,J who,Ju y] (.tuple #[]) [ae A rs { s with σ:=(s.σ.put who 2 (jU (i:Nat))).set (jU (i:Nat)) (IntKind.u64.wrap (y+1)) }]:=Does.oD hr ho fun _=>H8 who y (jm hi) hl
include hr ho hi hl c0 c8 in
theorem wF (who y:Int) (hy:dC y):Does prog [ae A rs s] 262 #[ptr r,J who,Ju y] (.tuple #[]) [ae A rs { s with σ:=(s.σ.put who 2 (lK (i:Nat) (ix y x.cs.length))).set (lK (i:Nat) (ix y x.cs.length)) (IntKind.u64.wrap (y+1)) }]:=Does.oD hr ho fun _=>Ih who y (jm hi) hl hy c0 c8
include hr ho hi hl c0 c8 in
theorem BA (who y:Int) (hy:dC y):Does prog [ae A rs s] 287 #[ptr r,J who,Ju y] (.bool (s.σ.num (lK (i:Nat) (ix y x.cs.length))==IntKind.u64.wrap (y+1))) [ae A rs { s with σ:=s.σ.put who 1 (lK (i:Nat) (ix y x.cs.length)) }]:=Does.oD hr ho fun _=>ES who y (jm hi) hl hy c0 c8
include hr ho hi hl c0 c8 in
theorem Ht (who y:Int) (k:Pk) (hy:dC y):Does prog [ae A rs s] 261 #[ptr r,J who,Ju y,k.val] (.tuple #[]) [ae A rs { s with σ:=s.σ.put who 6 (cellL (i:Nat) (ix y x.cs.length)),ob:=s.ob.set i ⟨x.o,x.cs.set (ix y x.cs.length) k⟩ }]:=
 Does.Uc hr ho fun g=>by rw[List.length_set];exact Nv who y k (jm hi) hl hy c0 c8
include hr ho hi hl c0 c8 in
theorem G6 (who y:Int) (k:Pk) (hy:dC y) (hk:x.cs[ix y x.cs.length]? =some k):Does prog [ae A rs s] 289 #[ptr r,J who,Ju y] k.val [ae A rs { s with σ:=s.σ.put who 5 (cellL (i:Nat) (ix y x.cs.length)) }]:=Does.oD hr ho fun _=>Ov who y k (jm hi) hl hy c0 c8 hk
include hr ho hi hl in
theorem uQ (who y:Int) (hy:dC y):Does prog [ae A rs s] 229 #[ptr r,J who,Ju y] (.bool (s.σ.turned (i:Nat) 0 y)) [ae A rs { s with σ:=s.σ.turn who (i:Nat) 0 y }]:=Does.oD hr ho fun _=>EF who y hy (jm hi) hl
include hr ho hi hl in
theorem DZ (who y:Int) (hy:dC y):Does prog [ae A rs s] 296 #[ptr r,J who,Ju y] (.bool (s.σ.turned (i:Nat) 1 y)) [ae A rs { s with σ:=s.σ.turn who (i:Nat) 1 y }]:=Does.oD hr ho fun _=>Jk who y hy (jm hi) hl
include hr ho hi hl in
theorem En (who y:Int) (hy:dC y):Does prog [ae A rs s] 212 #[ptr r,J who,Ju y] (.bool (s.σ.turned (i:Nat) 2 y)) [ae A rs { s with σ:=s.σ.turn who (i:Nat) 2 y }]:=Does.oD hr ho fun _=>Kw who y hy (jm hi) hl
include hr ho c8 in
theorem wU {y hd:Int} (hy:dC y) (hh:dC hd):Does prog [ae A rs s] 208 #[ptr r,Ju y,Ju hd] (.bool (decide (hd≤iD y∧(x.cs.length:Int)≤iD y - hd))) [ae A rs s]:=
 Does.oD (σ':=s.σ) hr ho fun g=>Does.ax fun S w0 w h=>((JI (cs:=x.cs) hy hh c8).fC h).mono fun _ _ ⟨he,h2⟩=>by subst he;exact Ends.mk [] h2
end
@[reducible] def gm:Lc:=⟨2,0,0⟩
@[reducible] def nD:Lc:=⟨4,0,0⟩
@[reducible] def o8 (i:Int):Lc:=⟨13,i,0⟩
theorem LH:gm.wf:=⟨(show I64 2 by unfold I64;omega),(show I64 0 by unfold I64;omega),(show I64 0 by unfold I64;omega)⟩
section
variable {A:PA} {rs:List Nat} {s:PS} {f:FuncId} {args:Array Value} {v:Value}
theorem Does.Qo {k':Co} (d:Does prog [eP A.co A.wd s.k,bP] f args v [eP A.co A.wd k',bP]):Does prog [ae A rs s,bP] f args v [ae A rs { s with k:=k' },bP]:=Does.ax fun S w0 w h=>by
 obtain⟨c,hF,s1⟩:=Scope.dH (Bs:=[bP]) h;have hj:(eX A rs s c).length+1=(bF A.m s.σ::eX A rs s c).length:=rfl;refine(Does.Qx d 5 ((eX A rs s c).length) rfl ?_ s1).mono ?_
 ·show(bF A.m s.σ::rZ A c::OI A s.nx::LP A::LD A s.kc s.jr::jT A.mp s.pl::vM c rs s.ob::yG c s.pt::aG (jW s.pt c.sv)::(rings A.m rs s.ob++[bP]))[(rings A.m rs s.ob).length+9]? =some bP
  show(rings A.m rs s.ob++[bP])[(rings A.m rs s.ob).length]? =some bP
  simp
 ·rintro e w' ⟨rfl,s2⟩
  exact Ends.mk [] (Scope.gJ (Bs:=[bP]) (rs:=rs) (s:={ s with k:=k' }) (c:=c) ⟨hF.rs,hF.sv⟩ s2)
theorem Does.TT (d:Does prog [eP A.co A.wd s.k] f args v [eP A.co A.wd s.k]):Does prog [ae A rs s] f args v [ae A rs s]:=Does.ax fun S w0 w h=>by
 obtain⟨c,hF,s1⟩:=h.dH;refine(Does.inp d 5 rfl s1).mono ?_
 rintro e w' ⟨rfl,s2⟩
 exact Ends.mk [] (s2.gJ (rs:=rs) (s:=s) (c:=c) hF)
variable (hl:s.σ.log.length≤1000000)
include hl in
theorem I5 (who:Int) (l:Lc) (hw:l.wf):Does prog [ae A rs s] 184 #[ptr A.m,J who,l.val] (Ju (s.σ.num l)) [ae A rs { s with σ:=s.σ.put who 1 l }]:=Does.Ll (jP who l hw hl)
include hl in
theorem MJ (who:Int) (l:Lc) (hw:l.wf) (y:Int) (hy:dC y):Does prog [ae A rs s] 252 #[ptr A.m,J who,l.val,Ju y] (Ju (s.σ.num l)) [ae A rs { s with σ:=(s.σ.put who 3 l).set l (IntKind.u64.wrap (s.σ.num l+y)) }]:=Does.Ll (yL who l hw y hy hl)
include hl in
theorem yZ (who:Int) (l:Lc):Does prog [ae A rs s] 187 #[ptr A.m,J who,l.val] (.tuple #[]) [ae A rs { s with σ:=s.σ.put who 5 l }]:=Does.Ll (oO who l hl)
include hl in
theorem wX (who:Int) (l:Lc):Does prog [ae A rs s] 141 #[ptr A.m,J who,l.val] (.tuple #[]) [ae A rs { s with σ:=s.σ.put who 6 l }]:=Does.Ll (nO who l hl)
include hl in
theorem rQ (who:Int):Does prog [ae A rs s] 214 #[ptr A.P,J who] (Ju (s.σ.num gm)) [ae A rs { s with σ:=s.σ.put who 1 gm }]:=Does.ax fun S w0 w h=>by
 have c0:=(h.bT 0 rfl).m;have H:=zd h;clear h
 go_enter func214,ntmps214
 go_wp2_with fail
 refine((I5 hl who gm LH).at0 H.out).mono ?_
 rintro e w1 ⟨rfl,s1⟩
 have S1:=zd s1;clear s1 c0
 go_wp2
 go_ret
 exact Ends.mk [] S1.out
include hl in
theorem yt (who:Int):Does prog [ae A rs s] 246 #[ptr A.P,J who] (.tuple #[]) [ae A rs { s with σ:=(s.σ.put who 3 gm).set gm (IntKind.u64.wrap (s.σ.num gm+1)) }]:=Does.ax fun S w0 w h=>by
 have c0:=(h.bT 0 rfl).m;have H:=zd h;clear h
 go_enter func246,ntmps246
 go_wp2_with fail
 refine((MJ hl who gm LH 1 (by unfold dC;omega)).at0 H.out).mono ?_
 rintro e w1 ⟨rfl,s1⟩
 have S1:=zd s1;clear s1 c0
 go_wp2
 go_end0
 exact Ends.mk [] S1.out
include hl in
theorem IY (who:Int):Does prog [ae A rs s] 239 #[ptr A.P,J who] (.tuple #[]) [ae A rs { s with σ:=s.σ.put who 5 nD }]:=Does.ax fun S w0 w h=>by
 have c0:=(h.bT 0 rfl).m;have H:=zd h;clear h
 go_enter func239,ntmps239
 go_wp2_with fail
 refine((yZ hl who nD).at0 H.out).mono ?_
 rintro e w1 ⟨rfl,s1⟩
 have S1:=zd s1;clear s1 c0
 go_wp2
 go_end0
 exact Ends.mk [] S1.out
include hl in
theorem xZ (who:Int):Does prog [ae A rs s] 280 #[ptr A.P,J who] (.tuple #[]) [ae A rs { s with σ:=s.σ.put who 6 nD }]:=Does.ax fun S w0 w h=>by
 have c0:=(h.bT 0 rfl).m;have H:=zd h;clear h
 go_enter func280,ntmps280
 go_wp2_with fail
 refine((wX hl who nD).at0 H.out).mono ?_
 rintro e w1 ⟨rfl,s1⟩
 have S1:=zd s1;clear s1 c0
 go_wp2
 go_end0
 exact Ends.mk [] S1.out
end
section
variable {A:PA} {rs:List Nat} {s:PS} {S:List Nat} {w0 w:World} {Bs:List HA}
theorem Scope.UE {c:Gh} (h:Scope S w0 w (bF A.m s.σ::(eX A rs s c++Bs))):∃ oa cap,c.vo=.slice oa s.ob.length cap∧w.cell? ⟨A.P,10,none⟩=some (.slice oa s.ob.length cap):=by
 have h1:Scope S w0 w (vM c rs s.ob::_):=h.front 7 rfl;obtain⟨oa,cap,hv,_⟩:=h1.jh;have r:=h.row (k:=A.P) 1 rfl
 exact⟨oa,cap,hv,by rw[←hv];exact r.cell rfl⟩
theorem Scope.AB {c:Gh} (h:Scope S w0 w (bF A.m s.σ::(eX A rs s c++Bs))) {i r:Nat} {x:mO} (hr:rs[i]? =some r) (ho:s.ob[i]? =some x):∃ g cap,c.vo=.slice (some ⟨g,0,none⟩) s.ob.length cap∧g<w.heap.size∧
  At w g (i*4) (J x.o.flow)∧At w g (i*4+1) (J x.o.most)∧At w g (i*4+2) (Ju x.o.r)∧At w g (i*4+3) (ptr r):=by
 have h1:Scope S w0 w (vM c rs s.ob::_):=h.front 7 rfl;have hn:0<s.ob.length:=by have:=(List.getElem?_eq_some_iff.1 ho).1;omega
 obtain⟨g,cap,rest,hv,s2,_⟩:=h1.qj hn;have hz:(List.zip s.ob rs)[i]? =some (x,r):=by simp[List.zip,List.getElem?_zipWith,hr,ho]
 have rg:=s2.row (k:=g) 0 rfl
 exact⟨g,cap,hv,rg.lt,rg.cell (eH rJ hz (j:=0) (by omega) rest),rg.cell (eH rJ hz (j:=1) (by omega) rest),rg.cell (eH rJ hz (j:=2) (by omega) rest),rg.cell (eH rJ hz (j:=3) (by omega) rest)⟩
theorem xQ (obj:Int):Does prog [ae A rs s] 186 #[ptr A.P,J obj] (.bool (decide (0≤obj∧obj<s.ob.length))) [ae A rs s]:=Does.ax fun S w0 w h=>by
 obtain⟨c,hF,s1⟩:=h.dH;obtain⟨oa,cap,hv,c0⟩:=s1.UE;obtain⟨n,hn⟩:∃ n,n=s.ob.length:=⟨_,rfl⟩
 rw[←hn]at c0 ⊢
 have H:=zd h;clear h s1 hv hn
 by_cases h1:0≤obj
 ·by_cases h2:obj<n
  ·have hr:decide (0≤obj∧obj<(n:Int))=true:=by simp[h1,h2]
   have Hr:=zd hr;clear hr
   go_enter func186,ntmps186
   go_wp2
   go_ret
   exact Ends.mk' (by rw[Hr.out];rfl) [] H.out
  ·skip
   go_enter func186,ntmps186
   go_wp2
   go_ret
   exact Ends.mk' (by simp;omega) [] H.out
 ·skip
  go_enter func186,ntmps186
  go_wp2
  go_ret
  exact Ends.mk' (by simp;omega) [] H.out
theorem sS {i r:Nat} {x:mO} (hr:rs[i]? =some r) (ho:s.ob[i]? =some x):Does prog [ae A rs s] 165 #[ptr A.P,J i] (ptr r) [ae A rs s]:=Does.ax fun S w0 w h=>by
 have hi:=(List.getElem?_eq_some_iff.1 ho).1;have hd:decide ((0:Int)≤(i:Int)∧(i:Int)<s.ob.length)=true:=by simp;omega
 have H:=zd h;have Hd:=zd hd;have Hr:=zd hr;have Ho:=zd ho;have Hi:=zd hi;clear h hd hr ho hi
 go_enter func165,ntmps165
 go_wp2_with fail
 refine((xQ (i:Int)).at0 H.out).mono ?_
 rintro e w1 ⟨he,s1⟩
 rw[Hd.out]at he;subst he;obtain⟨c,hF,s2⟩:=Scope.dH s1;obtain⟨g,cap,hv,lg,e0,e1,e2,e3⟩:=s2.AB Hr.out Ho.out;obtain⟨n,hn⟩:∃ n,n=s.ob.length:=⟨_,rfl⟩
 have hin:i<n:=by rw[hn];exact Hi.out
 have c0:w1.cell? ⟨A.P,10,none⟩=some (.slice (some ⟨g,0,none⟩) n cap):=by rw[hn, ←hv];exact(s2.row (k:=A.P) 1 rfl).cell rfl
 have S1:=zd s1;clear s1 s2 hv hn
 go_wp2
 go_ret
 exact Ends.mk [] S1.out
theorem Az {i r:Nat} {x:mO} (who:Int) (hr:rs[i]? =some r) (ho:s.ob[i]? =some x) (hl:s.σ.log.length≤1000000):Does prog [ae A rs s] 164 #[ptr A.P,J who,J i] (TR x.o) [ae A rs { s with σ:=s.σ.put who 5 (o8 (i:Nat)) }]:=Does.ax fun S w0 w h=>by
 have hi:=(List.getElem?_eq_some_iff.1 ho).1;have hd:decide ((0:Int)≤(i:Int)∧(i:Int)<s.ob.length)=true:=by simp;omega
 obtain⟨B,hB⟩:∃ B,B=w.heap.size:=⟨_,rfl⟩
 have s0:=h.box [J 0,J 0,Ju 0] 246;rw[←hB]at s0;have H:=zd s0;have Hd:=zd hd;have Hr:=zd hr;have Ho:=zd ho;have Hi:=zd hi;have HB:=zd hB;clear h hd hr ho hi s0 hB
 go_enter func164,ntmps164
 go_wp2_with fail
 rw[←HB.out];refine((xQ (i:Int)).at0 H.out).mono ?_
 rintro e w1 ⟨he,s1⟩
 rw[Hd.out]at he;subst he;have c0:=(Scope.bT s1 0 rfl).m;have S1:=zd s1;clear s1 H
 go_wp2_with fail
 refine((yZ hl who (o8 (i:Nat))).at0 S1.out).mono ?_
 rintro e w2 ⟨rfl,s1⟩
 obtain⟨c,hF,s2⟩:=Scope.dH s1;obtain⟨g,cap,hv,lg,e0,e1,e2,e3⟩:=s2.AB Hr.out Ho.out;obtain⟨n,hn⟩:∃ n,n=s.ob.length:=⟨_,rfl⟩
 have hin:i<n:=by rw[hn];exact Hi.out
 have c1:w2.cell? ⟨A.P,10,none⟩=some (.slice (some ⟨g,0,none⟩) n cap):=by rw[hn];rw[show some (Value.slice (some ⟨g,0,none⟩) s.ob.length cap)=some c.vo from congrArg some hv.symm];exact(s2.row (k:=A.P) 1 rfl).cell rfl
 have s3:Scope S w0 w2 ([ae A rs { s with σ:=s.σ.put who 5 (o8 (i:Nat)) }]++([box B [J 0,J 0,Ju 0] 246]++[])):=s1;have rb:=s3.row (k:=B) 1 rfl;obtain⟨b0,b1,b2⟩:=rb.c3;have f0:=rb.free 0;have f1:=rb.free 1;have f2:=rb.free 2;obtain⟨⟨of,om,orr⟩,cs⟩:=x;have q1:=Scope.au s3 0 (J of);have q2:=Scope.au q1 1 (J om);have q3:=Scope.au q2 2 (Ju orr);have Q3:=zd q3;clear s1 s2 s3 hv hn rb q1 q2 q3 S1 c0
 go_wp2
 have q4:=Q3.out;obtain⟨V,hV⟩:∃ V,V=((w2.setCell ⟨B,0,none⟩ (J of)).setCell ⟨B,1,none⟩ (J om)).setCell ⟨B,2,none⟩ (Ju orr):=⟨_,rfl⟩
 rw[←hV]at q4 ⊢
 have z0:At V B 0 (J of):=(q4.row (k:=B) 1 rfl).cell rfl;have z1:At V B 1 (J om):=(q4.row (k:=B) 1 rfl).cell rfl;have z2:At V B 2 (Ju orr):=(q4.row (k:=B) 1 rfl).cell rfl
 exact bodyPost_ret (v:=TR ⟨of,om,orr⟩) (by simp[results,results164,go_sem,z0,z1,z2]) rfl (Ends.mk [box B [J of,J om,Ju orr] 246] q4)
theorem Fz (who place:Int) (hw:I64 who):Does prog [ae A rs s] 38 #[ptr A.P,J who,J place] (.tuple #[]) [ae A rs { s with pl:=upd s.pl who place }]:=Does.ax fun S w0 w h=>by
 obtain⟨c,hF,s1⟩:=h.dH;have c0:At w A.P 11 (.map (some A.mp)):=(s1.row (k:=A.P) 1 rfl).cell rfl;obtain⟨kx,hkx⟩:=qy hw;obtain⟨fm,⟨⟨g,hmg,hog⟩,rfl⟩,t1⟩:=(s1.front 6 rfl).turned;obtain⟨W1,r1,M1,D1⟩:=hmg.update (t:=73) nV underlying73 (J place) hkx;have s7:=t1 (jT A.mp (upd s.pl who place)) W1 [A.mp] ⟨⟨_,M1,hog.put who place⟩,rfl⟩ D1 (Own.refl _ _);have s8:=s7.perm (qK 6 (bF A.m s.σ::(eX A rs s c++[])) (jT A.mp (upd s.pl who place)) (by show 6<_+10;omega));have s9:Scope S w0 W1 (bF A.m s.σ::(eX A rs { s with pl:=upd s.pl who place } c++[])):=s8;have S9:=zd (s9.gJ (s:={ s with pl:=upd s.pl who place }) ⟨hF.rs,hF.sv⟩);clear h s1 t1 s7 s8 s9 hmg hog M1 D1 hkx
 go_enter func38,ntmps38
 go_wp2
 go_end0
 exact Ends.mk [] S9.out
end
def U8 (S:List Nat) (w0:World) (r:Rt) (Bs:List HA) (e:Ending) (w':World):Prop:=∃ oa c,e=.returned (r.val (.slice oa r.pk.length c))∧Scope S w0 w' (aU (.slice oa r.pk.length c) 64 3 r.pk.length (iU r.pk)::Bs)
theorem zx {S:List Nat} {w0 w:World} {Bs:List HA} {r:Rt} {sv:Value} (h:Scope S w0 w Bs) (hs:vk w sv r.pk) (hf:lJ r.pk):Calls prog 43 #[r.val sv] w (U8 S w0 r Bs):=by
 obtain⟨oa,cp,es⟩:=hs.form;obtain⟨n,hn⟩:∃ n,n=r.pk.length:=⟨_,rfl⟩
 rw[←hn]at es;have HS:=zd hs;have HN:=zd hn;subst es;obtain⟨B,hB⟩:∃ B,B=w.heap.size:=⟨_,rfl⟩
 have s1:=h.box [J r.e,.slice oa n cp,J r.n,Ju r.v] 60;have s2:=s1.box [J 0,nS,J 0,Ju 0] 60;rw[show(w.alloc (.cells [J r.e,.slice oa n cp,J r.n,Ju r.v].toArray 60)).heap.size=B+1 by rw[hB];simp, ←hB]at s2;have S2:=zd s2;have HB:=zd hB;clear h hs hn s1 s2 hB
 go_enter func43,ntmps43
 go_wp2_with fail
 rw[←HB.out];refine(qN (HS.out.iZ (((dE.refl _ _).alloc _).alloc _)) hf).mono ?_
 rintro e w1 ⟨v,rfl,o1,c1,n1⟩
 obtain⟨ob,cq,ev⟩:=(vk.jk o1).form;subst ev;obtain⟨X,hX⟩:∃ X,X=aU (.slice ob r.pk.length cq) 64 3 r.pk.length (iU r.pk):=⟨_,rfl⟩
 have z4:=S2.out.joinL (dh (A:=aU (.slice ob r.pk.length cq) 64 3 r.pk.length (iU r.pk)) ⟨o1,rfl⟩) c1 (fun k hk=>n1 k (by simpa using hk));rw[←hX]at z4;have z5:Scope S w0 w1 ((X::Bs)++([box B [J r.e,.slice oa n cp,J r.n,Ju r.v] 60]++[box (B+1) [J 0,nS,J 0,Ju 0] 60])):=by simpa using z4
 have hi1:((X::Bs)++([box B [J r.e,.slice oa n cp,J r.n,Ju r.v] 60]++[box (B+1) [J 0,nS,J 0,Ju 0] 60]))[Bs.length+1]? =some (box B [J r.e,.slice oa n cp,J r.n,Ju r.v] 60):=by
  show(Bs++_)[Bs.length]? =_
  rw[List.getElem?_append_right (Nat.le_refl _)];simp
 have hi2:((X::Bs)++([box B [J r.e,.slice oa n cp,J r.n,Ju r.v] 60]++[box (B+1) [J 0,nS,J 0,Ju 0] 60]))[Bs.length+2]? =some (box (B+1) [J 0,nS,J 0,Ju 0] 60):=by
  show(Bs++_)[Bs.length+1]? =_
  rw[List.getElem?_append_right (by omega),show Bs.length+1 - Bs.length=1 by omega];rfl
 have r1:=z5.row (k:=B) _ hi1;have r2:=z5.row (k:=B+1) _ hi2;obtain⟨x0,x1,x2,x3⟩:=r1.c4;have g1:=r1.free 1;obtain⟨y0,y1,y2,y3⟩:=r2.c4;have f0:=r2.free 0;have f1:=r2.free 1;have f2:=r2.free 2;have f3:=r2.free 3;have q1:=Scope.au z5 1 (.slice ob r.pk.length cq);have q2:Scope S w0 (w1.setCell ⟨B,1,none⟩ (.slice ob r.pk.length cq)) (((X::Bs)++[box B [J r.e,.slice ob r.pk.length cq,J r.n,Ju r.v] 60])++([box (B+1) [J 0,nS,J 0,Ju 0] 60]++[])):=by
  simpa using q1
 have q3:=Scope.au q2 0 (J r.e);have q4:=Scope.au q3 1 (.slice ob r.pk.length cq);have q5:=Scope.au q4 2 (J r.n);have q6:=Scope.au q5 3 (Ju r.v);have Q6:=zd q6;have HX:=zd hX;clear z4 z5 hi1 hi2 r1 r2 q1 q2 q3 q4 q5 q6 o1 c1 n1 S2 hX HS
 go_wp2
 have q7:=Q6.out;obtain⟨V,hV⟩:∃ V,V=(((((w1.setCell ⟨B,1,none⟩ (.slice ob r.pk.length cq)).setCell ⟨B+1,0,none⟩ (J r.e)).setCell ⟨B+1,1,none⟩ (.slice ob r.pk.length cq)).setCell ⟨B+1,2,none⟩ (J r.n)).setCell ⟨B+1,3,none⟩ (Ju r.v)):=⟨_,rfl⟩
 rw[←hV]at q7 ⊢
 have hi3:(((X::Bs)++[box B [J r.e,.slice ob r.pk.length cq,J r.n,Ju r.v] 60])++([box (B+1) [J r.e,.slice ob r.pk.length cq,J r.n,Ju r.v] 60]++[]))[Bs.length+2]? =some (box (B+1) [J r.e,.slice ob r.pk.length cq,J r.n,Ju r.v] 60):=by
  rw[List.getElem?_append_right (by simp),show Bs.length+2 - ((X::Bs)++[box B [J r.e,.slice ob r.pk.length cq,J r.n,Ju r.v] 60]).length=0 by simp];rfl
 have r3:=q7.row (k:=B+1) _ hi3;obtain⟨z0,z1,z2,z3⟩:=r3.c4;have q8:=q7.drop.drop;rw[HX.out]at q8
 exact bodyPost_ret (v:=r.val (.slice ob r.pk.length cq)) (by simp[results,results43,go_sem,z0,z1,z2,z3]) rfl ⟨ob,cq,rfl,q8⟩
end Go.Proofs.YtjnbbmgbmiggbaaGreatDoor
