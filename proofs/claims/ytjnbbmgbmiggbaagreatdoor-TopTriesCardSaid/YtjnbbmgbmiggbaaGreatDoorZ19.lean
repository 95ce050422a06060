/- Lemmas for TopTries' card: New of package parts; what each change of the memory keeps. -/
import Derived.Test.YtjnbbmgbmiggbaaGreatDoorZ18
set_option linter.unusedSimpArgs false
set_option linter.unusedVariables false
set_option maxRecDepth 20000
set_option maxHeartbeats 4000000
namespace Go.Proofs.YtjnbbmgbmiggbaaGreatDoor
open Go Go.RowKit Go.Maps Go.Proofs.Tryz
def cl (v:Int):Int:=min (max v 1) 4
theorem Oc (w:World):(aG [dG w.heap.size (fun _=>0)]).holds (w.alloc (.map #[] 0)) [w.heap.size]:=
 dh (A:=dG w.heap.size (fun _=>0)) ⟨⟨0,fun _=>none,dD.made _ _ w,by simp,fun _ _=>rfl⟩,rfl⟩
def Vd (S:List Nat) (w0:World) (As:List HA) (m:Nat) (a:Int) (e:Ending) (w':World):Prop:=∃ p b,e=.returned (ptr p)∧Scope S w0 w' (As++[dG b (fun _=>0)]++[box p [ptr m,J (cl a),.map (some b),.func (.func 44) #[J 9] #[],.func (.func 44) #[J 14] #[]] 124])
theorem Scope.VG {S:List Nat} {w0 w:World} {As:List HA} (h:Scope S w0 w As) {m:Nat} {a x:Int} (hx:x=cl a):
  Scope S w0 ((w.alloc (.map #[] 0)).alloc (.cells #[ptr m,J x,.map (some w.heap.size),.func (.func 44) #[J 9] #[],.func (.func 44) #[J 14] #[]] 124)) (As++[dG w.heap.size (fun _=>0)]++[Go.Proofs.YtjnbbmgbmiggbaaGreatDoor.box (w.heap.size+1) [ptr m,J (cl a),.map (some w.heap.size),.func (.func 44) #[J 9] #[],.func (.func 44) #[J 14] #[]] 124]):=by
 subst hx;have h1:=(h.join (Oc w) ((dE.refl _ _).alloc _) (by simp)).box [ptr m,J (cl a),.map (some w.heap.size),.func (.func 44) #[J 9] #[],.func (.func 44) #[J 14] #[]] 124
 simpa using h1
theorem yE {S:List Nat} {w0 w:World} {As:List HA} (h:Scope S w0 w As) (m:Nat) (a:Int):Calls prog 34 #[ptr m,J a] w (Vd S w0 As m a):=by
 have H0:=zd h;have hmm:= @run_makeMap prog;clear h
 go_enter func34,ntmps34
 go_wp2
 all_goals (go_ret;exact⟨w.heap.size+1,w.heap.size,by simp,H0.out.VG (by unfold cl;omega)⟩)
theorem Scope.Ul {S:List Nat} {w0 w:World} {As:List HA} (h:Scope S w0 w As) {m:Nat} {a b x y:Int} {t:TypeId} (hx:x=cl a) (hy:y=cl b):
  Scope S w0 (w.alloc (.cells #[ptr m,J x,J y] t)) (As++[Go.Proofs.YtjnbbmgbmiggbaaGreatDoor.box w.heap.size [ptr m,J (cl a),J (cl b)] t]):=by
 subst hx;subst hy
 exact h.box [ptr m,J (cl a),J (cl b)] t
def Uw (S:List Nat) (w0:World) (As:List HA) (m:Nat) (a b:Int) (e:Ending) (w':World):Prop:=∃ p,e=.returned (ptr p)∧Scope S w0 w' (As++[box p [ptr m,J (cl a),J (cl b)] 126])
theorem pO {S:List Nat} {w0 w:World} {As:List HA} (h:Scope S w0 w As) (m:Nat) (a b:Int):Calls prog 35 #[ptr m,J a,J b] w (Uw S w0 As m a b):=by
 have H0:=zd h;clear h
 go_enter func35,ntmps35
 go_wp2
 all_goals (go_ret;exact⟨_,rfl,H0.out.Ul (by unfold cl;omega) (by unfold cl;omega)⟩)
theorem pM {n a b:Int} (h1:a≤n) (h2:n≤b):Same 32 #[J n,J a,J b] (.bool true):=fun w=>by
 go_enter func32,ntmps32
 go_wp2
 go_ret
 exact⟨rfl,rfl⟩
section
variable {sh sl wk wd un:Nat} {S:List Nat} {w0 w:World} {Bs:List HA}
theorem Aa (h:TL sh sl wk wd un):Pure prog 24 #[O8 sh sl wk wd un] (.bool true):=fun w=>by
 have rb:=Row.new w [J (sh:Nat),J (sl:Nat),J (wk:Nat),J (wd:Nat),Ju (un:Nat)] 24;obtain⟨W,hW⟩:∃ W,W=w.alloc (.cells #[J (sh:Nat),J (sl:Nat),J (wk:Nat),J (wd:Nat),Ju (un:Nat)] 24):=⟨_,rfl⟩
 obtain⟨B,hB⟩:∃ B,B=w.heap.size:=⟨_,rfl⟩
 rw[←hB,show w.alloc (.cells [J (sh:Nat),J (sl:Nat),J (wk:Nat),J (wd:Nat),Ju (un:Nat)].toArray 24)=W from hW.symm]at rb;have hc:dE [] w W:=by rw[hW];exact(dE.refl _ _).alloc _
 have H:=zd h;obtain⟨k0,k1,k2,k3,k4⟩:=rb.c5;have u1:(1:Int)≤(un:Nat):=by have:=h.un1;omega
 have u2:((un:Nat):Int)≤4611686018427387904:=by have:=h.un2;omega
 have HW:=zd hW;have HB:=zd hB;have Hc:=zd hc;clear h rb hW hB hc
 go_enter func24,ntmps24
 go_wp2_with fail
 rw[←HB.out,show w.alloc (.cells #[J (sh:Nat),J (sl:Nat),J (wk:Nat),J (wd:Nat),Ju (un:Nat)] 24)=W from HW.out.symm];refine(pM (n:=(sh:Nat)) (a:=1) (b:=4) (by have:=H.out.sh1;omega) (by have:=H.out.sh4;omega) _).mono ?_
 rintro er w1 ⟨rfl,hw⟩
 subst hw
 go_wp2_with fail
 refine(pM (n:=(sl:Nat)) (a:=1) (b:=4) (by have:=H.out.sl1;omega) (by have:=H.out.sl4;omega) _).mono ?_
 rintro er w1 ⟨rfl,hw⟩
 subst hw
 go_wp2_with fail
 refine(pM (n:=(wk:Nat)) (a:=1) (b:=6) (by have:=H.out.wk1;omega) (by have:=H.out.wk6;omega) _).mono ?_
 rintro er w1 ⟨rfl,hw⟩
 subst hw
 go_wp2_with fail
 refine(pM (n:=(wd:Nat)) (a:=0) (b:=40) (by omega) (by have:=H.out.wd;omega) _).mono ?_
 rintro er w1 ⟨rfl,hw⟩
 subst hw
 go_wp2_with fail
 go_ret
 exact⟨rfl,Hc.out⟩
theorem qH {A:PA} {sh:Nat} {X:HA} (h:Scope S w0 w (bF A.m MS.zero::box A.P [ptr A.m,ptr A.ib,ptr A.tb,ptr A.po,ptr A.co,J A.sh,J A.sl,J A.wk,J A.wd,Ju A.un,nS,.map (some A.mp),nS] 76::box A.ib [ptr A.m,J A.sh,.map (some A.nb),.func (.func 44) #[J 9] #[],.func (.func 44) #[J 14] #[]] 124::dG A.nb (fun _=>0)::box A.tb [ptr A.m,J A.sh,J A.sl] 126::box A.po [ptr A.m,J A.wk,.map (some A.ba),.map (some A.br)] 130::iE A.ba []::ik A.br xe []::eP A.co A.wd (.new sh)::jT A.mp (fun _=>0)::X::Bs)):Scope S w0 w (ae A [] ⟨MS.zero,fun _=>0,[],[],.new sh,[],fun _=>0,[]⟩::Bs):=by
 generalize hM:bF A.m MS.zero=M at h;generalize hP:box A.P [ptr A.m,ptr A.ib,ptr A.tb,ptr A.po,ptr A.co,J A.sh,J A.sl,J A.wk,J A.wd,Ju A.un,nS,.map (some A.mp),nS] 76=P at h;have h1:=Scope.shut1 (As:=[box A.ib [ptr A.m,J A.sh,.map (some A.nb),.func (.func 44) #[J 9] #[],.func (.func 44) #[J 14] #[]] 124,dG A.nb (fun _=>0)]) ((h.front 3 rfl).front 3 rfl);have h2:=Scope.shut1 (As:=[box A.tb [ptr A.m,J A.sh,J A.sl] 126]) (h1.front 3 rfl);have h3:=Scope.shut1 (As:=[box A.po [ptr A.m,J A.wk,.map (some A.ba),.map (some A.br)] 130,iE A.ba [],ik A.br xe []]) (((h2.front 6 rfl).front 6 rfl).front 6 rfl);have h4:=Scope.tX (F:=fun F=>aG [box A.po [ptr A.m,J A.wk,.map (some A.ba),.map (some A.br)] 130,iE A.ba [],ik A.br F []]) xe h3;have h5:=jX 261 4 (jX 114 7 (Scope.shut1 (As:=[]) h4));have h6:=Scope.drop_left (As:=[X]) (h5.front 10 rfl);have h7:=((((((((((h6.front 2 rfl).front 2 rfl).front 2 rfl).front 9 rfl).front 9 rfl).front 5 rfl).front 6 rfl).front 7 rfl).front 9 rfl).front 9 rfl)
 subst hM;subst hP
 exact Scope.gJ (A:=A) (rs:=[]) (s:=⟨MS.zero,fun _=>0,[],[],.new sh,[],fun _=>0,[]⟩) (c:=⟨nS,nS,[]⟩) ⟨rfl,rfl⟩ h7
def PS.new (sh:Nat):PS:=⟨MS.zero,fun _=>0,[],[],.new sh,[],fun _=>0,[]⟩
theorem GY (h:TL sh sl wk wd un) (s0:Scope S w0 w Bs):Calls prog 25 #[O8 sh sl wk wd un] w fun e w'=>∃ A:PA,(A.sh=sh∧A.sl=sl∧A.wk=wk∧A.wd=wd∧A.un=un)∧e=.returned (.tuple #[ptr A.P,J 0])∧Scope S w0 w' (ae A [] (PS.new sh)::Bs):=by
 have hmm:= @run_makeMap prog;obtain⟨B,hB⟩:∃ B,B=w.heap.size:=⟨_,rfl⟩
 obtain⟨W,hW⟩:∃ W,W=w.alloc (.cells #[J (sh:Nat),J (sl:Nat),J (wk:Nat),J (wd:Nat),Ju (un:Nat)] 24):=⟨_,rfl⟩
 have s1:=s0.box [J (sh:Nat),J (sl:Nat),J (wk:Nat),J (wd:Nat),Ju (un:Nat)] 24;rw[←hB,show w.alloc (.cells ([J (sh:Nat),J (sl:Nat),J (wk:Nat),J (wd:Nat),Ju (un:Nat)]:List Value).toArray 24)=W from hW.symm]at s1;have Sa:=zd (Scope.perm s1 List.perm_append_comm:Scope S w0 W ((box B [J (sh:Nat),J (sl:Nat),J (wk:Nat),J (wd:Nat),Ju (un:Nat)] 24::Bs)));have HB:=zd hB;have HW:=zd hW;have H:=zd h;have rb:=Sa.out.row (k:=B) 0 rfl;obtain⟨k0,k1,k2,k3,k4⟩:=rb.c5;clear h s0 s1 hB hW rb
 go_enter func25,ntmps25
 go_wp2_with fail
 rw[←HB.out,show w.alloc (.cells #[J (sh:Nat),J (sl:Nat),J (wk:Nat),J (wd:Nat),Ju (un:Nat)] 24)=W from HW.out.symm];refine(Aa H.out _).mono ?_
 rintro er w1 ⟨rfl,hc⟩
 have S1:=zd (Sa.out.quiet hc);clear hc Sa k0 k1 k2 k3 k4
 go_wp2_with fail
 refine(NH S1.out).mono ?_
 rintro er w2 ⟨pm,rfl,s2⟩
 have s2:Scope S w0 w2 (bF pm MS.zero::box B [J (sh:Nat),J (sl:Nat),J (wk:Nat),J (wd:Nat),Ju (un:Nat)] 24::Bs):=s2;have S2:=zd s2.drew;clear s2 S1
 go_wp2_with fail
 have facts:∀ (w':World) (As:List HA) (i:Nat),Scope S w0 w' As→As[i]? =some (box B [J (sh:Nat),J (sl:Nat),J (wk:Nat),J (wd:Nat),Ju (un:Nat)] 24)→At w' B 0 (J (sh:Nat))∧At w' B 1 (J (sl:Nat))∧At w' B 2 (J (wk:Nat))∧At w' B 3 (J (wd:Nat))∧At w' B 4 (Ju (un:Nat)):=fun w' As i s hi=>by
  have rb:=s.row (k:=B) i hi
  exact⟨rb.cell rfl,rb.cell rfl,rb.cell rfl,rb.cell rfl,rb.cell rfl⟩
 have Facts:=zd facts;clear facts;refine aP (by kernel_rfl) ?_;have sd:=S2.out;generalize w2.drew=V at sd ⊢
 have h0:=Facts.out V _ 1 sd rfl;have S3:=zd sd;clear sd S2;refine aY [0,1,2,5,6,8,11,12] ?_
 repeat (refine ay _ rfl (by kernel_rfl) (fun _ _ _ h=>h) (fun w'=>by(try simp only[ag,ah,aj]);go_simp;try with_reducible rfl) ?_;try simp only[Act.put,ag,ah,aj,aF,aB,aC])
 refine aH ?_;refine cu (fun w'=>At w' B 0 (J (sh:Nat))∧At w' B 1 (J (sl:Nat))∧At w' B 2 (J (wk:Nat))∧At w' B 3 (J (wd:Nat))∧At w' B 4 (Ju (un:Nat))) [3,7,9,13,15,17,4,10,14,16,18] [3,7,9,13,15,17] ?_
 repeat (refine aN _ rfl (by kernel_rfl) (fun _ _ _ h=>h) h0 (fun w' hS=>by(try dsimp only at hS);(try simp only[ag,ah,aj]);go_simp;try with_reducible rfl) ?_;try simp only[Act.put,ag,ah,aj,aF,aB,aC])
 refine bM ?_;clear h0;refine dS (rs:=[4,18]) (by kernel_rfl) (by simp) (fun iQ hiQ=>?_);simp only[List.mem_cons,List.not_mem_nil,or_false]at hiQ
 rcases hiQ with rfl|rfl
 ·refine cO rfl (by rfl) (fun K hK=>?_)
  go_simp;refine(yE S3.out pm (sh:Nat)).mono ?_
  rintro er w11 ⟨p1,b1,rfl,t12⟩
  rw[show cl (sh:Int)=(sh:Nat) by have:=H.out.sh1;have:=H.out.sh4;unfold cl;omega,List.append_assoc]at t12;have t12:Scope S w0 w11 (dG b1 (fun _=>0)::box p1 [ptr pm,J (sh:Nat),.map (some b1),.func (.func 44) #[J 9] #[],.func (.func 44) #[J 14] #[]] 124::bF pm MS.zero::box B [J (sh:Nat),J (sl:Nat),J (wk:Nat),J (wd:Nat),Ju (un:Nat)] 24::Bs):=Scope.perm t12 List.perm_append_comm;have h1:=Facts.out w11 _ 3 t12 rfl;refine hK _ _ ⟨fun _=>h1,?_⟩;have S13:=zd t12;clear hK K h1 t12 S3
  try simp only[Act.put,ag,ah,aj,aF,aB,aC]
  refine dS (rs:=[10,18]) (by kernel_rfl) (by simp) (fun iQ hiQ=>?_);simp only[List.mem_cons,List.not_mem_nil,or_false]at hiQ
  rcases hiQ with rfl|rfl
  ·refine cO rfl (by rfl) (fun K hK=>?_)
   go_simp;refine(pO S13.out pm (sh:Nat) (sl:Nat)).mono ?_
   rintro er w14 ⟨p2,rfl,t15⟩
   rw[show cl (sh:Int)=(sh:Nat) by have:=H.out.sh1;have:=H.out.sh4;unfold cl;omega,show cl (sl:Int)=(sl:Nat) by have:=H.out.sl1;have:=H.out.sl4;unfold cl;omega]at t15;have t15:Scope S w0 w14 (box p2 [ptr pm,J (sh:Nat),J (sl:Nat)] 126::dG b1 (fun _=>0)::box p1 [ptr pm,J (sh:Nat),.map (some b1),.func (.func 44) #[J 9] #[],.func (.func 44) #[J 14] #[]] 124::bF pm MS.zero::box B [J (sh:Nat),J (sl:Nat),J (wk:Nat),J (wd:Nat),Ju (un:Nat)] 24::Bs):=Scope.perm t15 List.perm_append_comm;have h1:=Facts.out w14 _ 4 t15 rfl;refine hK _ _ ⟨fun _=>h1,?_⟩;have S16:=zd t15;clear hK K h1 t15 S13
   try simp only[Act.put,ag,ah,aj,aF,aB,aC]
   refine dS (rs:=[14,18]) (by kernel_rfl) (by simp) (fun iQ hiQ=>?_);simp only[List.mem_cons,List.not_mem_nil,or_false]at hiQ
   rcases hiQ with rfl|rfl
   ·refine cO rfl (by rfl) (fun K hK=>?_)
    go_simp;refine(qc S16.out pm (wk:Nat)).mono ?_
    rintro er w17 ⟨p3,ba,br,rfl,t18⟩
    rw[show OM (wk:Int)=(wk:Nat) by have:=H.out.wk1;have:=H.out.wk6;unfold OM;omega,List.append_assoc,List.append_assoc]at t18;have t18:Scope S w0 w17 (iE ba []::ik br xe []::box p3 [ptr pm,J (wk:Nat),.map (some ba),.map (some br)] 130::box p2 [ptr pm,J (sh:Nat),J (sl:Nat)] 126::dG b1 (fun _=>0)::box p1 [ptr pm,J (sh:Nat),.map (some b1),.func (.func 44) #[J 9] #[],.func (.func 44) #[J 14] #[]] 124::bF pm MS.zero::box B [J (sh:Nat),J (sl:Nat),J (wk:Nat),J (wd:Nat),Ju (un:Nat)] 24::Bs):=Scope.perm t18 List.perm_append_comm;have h1:=Facts.out w17 _ 7 t18 rfl;refine hK _ _ ⟨fun _=>h1,?_⟩;have S19:=zd t18;clear hK K h1 t18 S16
    try simp only[Act.put,ag,ah,aj,aF,aB,aC]
    refine dS (rs:=[16,18]) (by kernel_rfl) (by simp) (fun iQ hiQ=>?_);simp only[List.mem_cons,List.not_mem_nil,or_false]at hiQ
    rcases hiQ with rfl|rfl
    ·refine cO rfl (by rfl) (fun K hK=>?_)
     go_simp;refine(mZ H.out.sh1 H.out.sh4 H.out.wd (sl:Nat) (wk:Nat) un S19.out).mono ?_
     rintro er w20 ⟨p4,rfl,t21⟩
     have t21:Scope S w0 w20 (eP p4 wd (.new sh)::iE ba []::ik br xe []::box p3 [ptr pm,J (wk:Nat),.map (some ba),.map (some br)] 130::box p2 [ptr pm,J (sh:Nat),J (sl:Nat)] 126::dG b1 (fun _=>0)::box p1 [ptr pm,J (sh:Nat),.map (some b1),.func (.func 44) #[J 9] #[],.func (.func 44) #[J 14] #[]] 124::bF pm MS.zero::box B [J (sh:Nat),J (sl:Nat),J (wk:Nat),J (wd:Nat),Ju (un:Nat)] 24::Bs):=t21;have h1:=Facts.out w20 _ 8 t21 rfl;refine hK _ _ ⟨fun _=>h1,?_⟩;have S22:=zd t21;clear hK K h1 t21 S19
     try simp only[Act.put,ag,ah,aj,aF,aB,aC]
     refine dS (rs:=[18]) (by kernel_rfl) (by simp) (fun iQ hiQ=>?_);obtain rfl:iQ=18:=by simpa using hiQ
     refine cO rfl (by rfl) (fun K hK=>?_);go_simp;obtain⟨w23,hw23⟩:∃ w23,w23=w20.alloc (.map #[] 0):=⟨_,rfl⟩
     have t24:Scope S w0 w23 ([jT w20.heap.size (fun _=>0)]++(eP p4 wd (.new sh)::iE ba []::ik br xe []::box p3 [ptr pm,J (wk:Nat),.map (some ba),.map (some br)] 130::box p2 [ptr pm,J (sh:Nat),J (sl:Nat)] 126::dG b1 (fun _=>0)::box p1 [ptr pm,J (sh:Nat),.map (some b1),.func (.func 44) #[J 9] #[],.func (.func 44) #[J 14] #[]] 124::bF pm MS.zero::box B [J (sh:Nat),J (sl:Nat),J (wk:Nat),J (wd:Nat),Ju (un:Nat)] 24::Bs)):=by rw[hw23];exact S22.out.joinL (g:=[w20.heap.size]) (dh (A:=jT w20.heap.size (fun _=>0)) ⟨⟨_,fM.made _ _ w20,fun id=>rfl⟩,rfl⟩) ((dE.refl _ _).alloc _) (by simp)
     rw[←hw23];obtain⟨mp,hmp⟩:∃ mp,mp=w20.heap.size:=⟨_,rfl⟩
     rw[←hmp]at t24 ⊢
     clear hw23 hmp;have t24:Scope S w0 w23 (jT mp (fun _=>0)::eP p4 wd (.new sh)::iE ba []::ik br xe []::box p3 [ptr pm,J (wk:Nat),.map (some ba),.map (some br)] 130::box p2 [ptr pm,J (sh:Nat),J (sl:Nat)] 126::dG b1 (fun _=>0)::box p1 [ptr pm,J (sh:Nat),.map (some b1),.func (.func 44) #[J 9] #[],.func (.func 44) #[J 14] #[]] 124::bF pm MS.zero::box B [J (sh:Nat),J (sl:Nat),J (wk:Nat),J (wd:Nat),Ju (un:Nat)] 24::Bs):=t24;have h1:=Facts.out w23 _ 9 t24 rfl;refine hK _ _ ⟨fun _=>h1,?_⟩;have S25:=zd t24;clear hK K h1 t24 S22
     try simp only[Act.put,ag,ah,aj,aF,aB,aC]
     refine dB [] (bH (by kernel_rfl) ?_);refine aY [19] ?_
     repeat (refine ay _ rfl (by kernel_rfl) (fun _ _ _ h=>h) (fun w'=>by(try simp only[ag,ah,aj]);go_simp;try with_reducible rfl) ?_;try simp only[Act.put,ag,ah,aj,aF,aB,aC])
     refine aH ?_;refine af 20 (by kernel_rfl) rfl (by rfl) fun K hK=>?_
     go_simp;refine hK _ _ ?_;clear hK K
     try simp only[Act.put,ag,ah,aj,aF,aB,aC]
     refine af 21 (by kernel_rfl) rfl (by rfl) fun K hK=>?_
     go_simp;refine hK _ _ ?_;clear hK K
     try simp only[Act.put,ag,ah,aj,aF,aB,aC]
     refine af 22 (by kernel_rfl) rfl (by rfl) fun K hK=>?_
     go_simp;refine hK _ _ ?_;clear hK K
     try simp only[Act.put,ag,ah,aj,aF,aB,aC]
     refine wpAny_done (by kernel_rfl) ?_ _
     go_wp2
     have s3:=S25.out.box [ptr pm,ptr p1,ptr p2,ptr p3,ptr p4,J (sh:Nat),J (sl:Nat),J (wk:Nat),J (wd:Nat),Ju (un:Nat),nS,.map (some mp),nS] 76;refine bodyPost_ret (v:=.tuple #[ptr w23.heap.size,J 0]) (by simp[results,results25,go_sem]) rfl ⟨⟨w23.heap.size,pm,p1,b1,p2,p3,ba,br,p4,mp,sh,sl,wk,wd,un⟩,⟨rfl,rfl,rfl,rfl,rfl⟩,rfl,qH (((((((((((((Scope.perm s3 List.perm_append_comm:Scope S w0 _ (box w23.heap.size [ptr pm,ptr p1,ptr p2,ptr p3,ptr p4,J (sh:Nat),J (sl:Nat),J (wk:Nat),J (wd:Nat),Ju (un:Nat),nS,.map (some mp),nS] 76::(jT mp (fun _=>0)::eP p4 wd (.new sh)::iE ba []::ik br xe []::box p3 [ptr pm,J (wk:Nat),.map (some ba),.map (some br)] 130::box p2 [ptr pm,J (sh:Nat),J (sl:Nat)] 126::dG b1 (fun _=>0)::box p1 [ptr pm,J (sh:Nat),.map (some b1),.func (.func 44) #[J 9] #[],.func (.func 44) #[J 14] #[]] 124::bF pm MS.zero::box B [J (sh:Nat),J (sl:Nat),J (wk:Nat),J (wd:Nat),Ju (un:Nat)] 24::Bs))).front 10 rfl).front 2 rfl).front 3 rfl).front 5 rfl).front 5 rfl).front 6 rfl).front 7 rfl).front 8 rfl).front 9 rfl).front 9 rfl).front 10 rfl))⟩
    ·refine cO rfl (by rfl) (fun K hK=>?_)
     go_simp;obtain⟨w26,hw26⟩:∃ w26,w26=w17.alloc (.map #[] 0):=⟨_,rfl⟩
     have t27:Scope S w0 w26 ([jT w17.heap.size (fun _=>0)]++(iE ba []::ik br xe []::box p3 [ptr pm,J (wk:Nat),.map (some ba),.map (some br)] 130::box p2 [ptr pm,J (sh:Nat),J (sl:Nat)] 126::dG b1 (fun _=>0)::box p1 [ptr pm,J (sh:Nat),.map (some b1),.func (.func 44) #[J 9] #[],.func (.func 44) #[J 14] #[]] 124::bF pm MS.zero::box B [J (sh:Nat),J (sl:Nat),J (wk:Nat),J (wd:Nat),Ju (un:Nat)] 24::Bs)):=by rw[hw26];exact S19.out.joinL (g:=[w17.heap.size]) (dh (A:=jT w17.heap.size (fun _=>0)) ⟨⟨_,fM.made _ _ w17,fun id=>rfl⟩,rfl⟩) ((dE.refl _ _).alloc _) (by simp)
     rw[←hw26];obtain⟨mp,hmp⟩:∃ mp,mp=w17.heap.size:=⟨_,rfl⟩
     rw[←hmp]at t27 ⊢
     clear hw26 hmp;have t27:Scope S w0 w26 (jT mp (fun _=>0)::iE ba []::ik br xe []::box p3 [ptr pm,J (wk:Nat),.map (some ba),.map (some br)] 130::box p2 [ptr pm,J (sh:Nat),J (sl:Nat)] 126::dG b1 (fun _=>0)::box p1 [ptr pm,J (sh:Nat),.map (some b1),.func (.func 44) #[J 9] #[],.func (.func 44) #[J 14] #[]] 124::bF pm MS.zero::box B [J (sh:Nat),J (sl:Nat),J (wk:Nat),J (wd:Nat),Ju (un:Nat)] 24::Bs):=t27;have h1:=Facts.out w26 _ 8 t27 rfl;refine hK _ _ ⟨fun _=>h1,?_⟩;have S28:=zd t27;clear hK K h1 t27 S19
     try simp only[Act.put,ag,ah,aj,aF,aB,aC]
     refine dS (rs:=[16]) (by kernel_rfl) (by simp) (fun iQ hiQ=>?_);obtain rfl:iQ=16:=by simpa using hiQ
     refine cO rfl (by rfl) (fun K hK=>?_);go_simp;refine(mZ H.out.sh1 H.out.sh4 H.out.wd (sl:Nat) (wk:Nat) un S28.out).mono ?_
     rintro er w29 ⟨p4,rfl,t30⟩
     have t30:Scope S w0 w29 (eP p4 wd (.new sh)::jT mp (fun _=>0)::iE ba []::ik br xe []::box p3 [ptr pm,J (wk:Nat),.map (some ba),.map (some br)] 130::box p2 [ptr pm,J (sh:Nat),J (sl:Nat)] 126::dG b1 (fun _=>0)::box p1 [ptr pm,J (sh:Nat),.map (some b1),.func (.func 44) #[J 9] #[],.func (.func 44) #[J 14] #[]] 124::bF pm MS.zero::box B [J (sh:Nat),J (sl:Nat),J (wk:Nat),J (wd:Nat),Ju (un:Nat)] 24::Bs):=t30;have h1:=Facts.out w29 _ 9 t30 rfl;refine hK _ _ ⟨fun _=>h1,?_⟩;have S31:=zd t30;clear hK K h1 t30 S28
     try simp only[Act.put,ag,ah,aj,aF,aB,aC]
     refine dB [] (bH (by kernel_rfl) ?_);refine aY [19] ?_
     repeat (refine ay _ rfl (by kernel_rfl) (fun _ _ _ h=>h) (fun w'=>by(try simp only[ag,ah,aj]);go_simp;try with_reducible rfl) ?_;try simp only[Act.put,ag,ah,aj,aF,aB,aC])
     refine aH ?_;refine af 20 (by kernel_rfl) rfl (by rfl) fun K hK=>?_
     go_simp;refine hK _ _ ?_;clear hK K
     try simp only[Act.put,ag,ah,aj,aF,aB,aC]
     refine af 21 (by kernel_rfl) rfl (by rfl) fun K hK=>?_
     go_simp;refine hK _ _ ?_;clear hK K
     try simp only[Act.put,ag,ah,aj,aF,aB,aC]
     refine af 22 (by kernel_rfl) rfl (by rfl) fun K hK=>?_
     go_simp;refine hK _ _ ?_;clear hK K
     try simp only[Act.put,ag,ah,aj,aF,aB,aC]
     refine wpAny_done (by kernel_rfl) ?_ _
     go_wp2
     have s3:=S31.out.box [ptr pm,ptr p1,ptr p2,ptr p3,ptr p4,J (sh:Nat),J (sl:Nat),J (wk:Nat),J (wd:Nat),Ju (un:Nat),nS,.map (some mp),nS] 76;refine bodyPost_ret (v:=.tuple #[ptr w29.heap.size,J 0]) (by simp[results,results25,go_sem]) rfl ⟨⟨w29.heap.size,pm,p1,b1,p2,p3,ba,br,p4,mp,sh,sl,wk,wd,un⟩,⟨rfl,rfl,rfl,rfl,rfl⟩,rfl,qH (((((((((((((Scope.perm s3 List.perm_append_comm:Scope S w0 _ (box w29.heap.size [ptr pm,ptr p1,ptr p2,ptr p3,ptr p4,J (sh:Nat),J (sl:Nat),J (wk:Nat),J (wd:Nat),Ju (un:Nat),nS,.map (some mp),nS] 76::(eP p4 wd (.new sh)::jT mp (fun _=>0)::iE ba []::ik br xe []::box p3 [ptr pm,J (wk:Nat),.map (some ba),.map (some br)] 130::box p2 [ptr pm,J (sh:Nat),J (sl:Nat)] 126::dG b1 (fun _=>0)::box p1 [ptr pm,J (sh:Nat),.map (some b1),.func (.func 44) #[J 9] #[],.func (.func 44) #[J 14] #[]] 124::bF pm MS.zero::box B [J (sh:Nat),J (sl:Nat),J (wk:Nat),J (wd:Nat),Ju (un:Nat)] 24::Bs))).front 10 rfl).front 3 rfl).front 3 rfl).front 5 rfl).front 5 rfl).front 6 rfl).front 7 rfl).front 8 rfl).front 9 rfl).front 9 rfl).front 10 rfl))⟩
   ·refine cO rfl (by rfl) (fun K hK=>?_)
    go_simp;obtain⟨w32,hw32⟩:∃ w32,w32=w14.alloc (.map #[] 0):=⟨_,rfl⟩
    have t33:Scope S w0 w32 ([jT w14.heap.size (fun _=>0)]++(box p2 [ptr pm,J (sh:Nat),J (sl:Nat)] 126::dG b1 (fun _=>0)::box p1 [ptr pm,J (sh:Nat),.map (some b1),.func (.func 44) #[J 9] #[],.func (.func 44) #[J 14] #[]] 124::bF pm MS.zero::box B [J (sh:Nat),J (sl:Nat),J (wk:Nat),J (wd:Nat),Ju (un:Nat)] 24::Bs)):=by rw[hw32];exact S16.out.joinL (g:=[w14.heap.size]) (dh (A:=jT w14.heap.size (fun _=>0)) ⟨⟨_,fM.made _ _ w14,fun id=>rfl⟩,rfl⟩) ((dE.refl _ _).alloc _) (by simp)
    rw[←hw32];obtain⟨mp,hmp⟩:∃ mp,mp=w14.heap.size:=⟨_,rfl⟩
    rw[←hmp]at t33 ⊢
    clear hw32 hmp;have t33:Scope S w0 w32 (jT mp (fun _=>0)::box p2 [ptr pm,J (sh:Nat),J (sl:Nat)] 126::dG b1 (fun _=>0)::box p1 [ptr pm,J (sh:Nat),.map (some b1),.func (.func 44) #[J 9] #[],.func (.func 44) #[J 14] #[]] 124::bF pm MS.zero::box B [J (sh:Nat),J (sl:Nat),J (wk:Nat),J (wd:Nat),Ju (un:Nat)] 24::Bs):=t33;have h1:=Facts.out w32 _ 5 t33 rfl;refine hK _ _ ⟨fun _=>h1,?_⟩;have S34:=zd t33;clear hK K h1 t33 S16
    try simp only[Act.put,ag,ah,aj,aF,aB,aC]
    refine dS (rs:=[14]) (by kernel_rfl) (by simp) (fun iQ hiQ=>?_);obtain rfl:iQ=14:=by simpa using hiQ
    refine cO rfl (by rfl) (fun K hK=>?_);go_simp;refine(qc S34.out pm (wk:Nat)).mono ?_
    rintro er w35 ⟨p3,ba,br,rfl,t36⟩
    rw[show OM (wk:Int)=(wk:Nat) by have:=H.out.wk1;have:=H.out.wk6;unfold OM;omega,List.append_assoc,List.append_assoc]at t36;have t36:Scope S w0 w35 (iE ba []::ik br xe []::box p3 [ptr pm,J (wk:Nat),.map (some ba),.map (some br)] 130::jT mp (fun _=>0)::box p2 [ptr pm,J (sh:Nat),J (sl:Nat)] 126::dG b1 (fun _=>0)::box p1 [ptr pm,J (sh:Nat),.map (some b1),.func (.func 44) #[J 9] #[],.func (.func 44) #[J 14] #[]] 124::bF pm MS.zero::box B [J (sh:Nat),J (sl:Nat),J (wk:Nat),J (wd:Nat),Ju (un:Nat)] 24::Bs):=Scope.perm t36 List.perm_append_comm;have h1:=Facts.out w35 _ 8 t36 rfl;refine hK _ _ ⟨fun _=>h1,?_⟩;have S37:=zd t36;clear hK K h1 t36 S34
    try simp only[Act.put,ag,ah,aj,aF,aB,aC]
    refine dS (rs:=[16]) (by kernel_rfl) (by simp) (fun iQ hiQ=>?_);obtain rfl:iQ=16:=by simpa using hiQ
    refine cO rfl (by rfl) (fun K hK=>?_);go_simp;refine(mZ H.out.sh1 H.out.sh4 H.out.wd (sl:Nat) (wk:Nat) un S37.out).mono ?_
    rintro er w38 ⟨p4,rfl,t39⟩
    have t39:Scope S w0 w38 (eP p4 wd (.new sh)::iE ba []::ik br xe []::box p3 [ptr pm,J (wk:Nat),.map (some ba),.map (some br)] 130::jT mp (fun _=>0)::box p2 [ptr pm,J (sh:Nat),J (sl:Nat)] 126::dG b1 (fun _=>0)::box p1 [ptr pm,J (sh:Nat),.map (some b1),.func (.func 44) #[J 9] #[],.func (.func 44) #[J 14] #[]] 124::bF pm MS.zero::box B [J (sh:Nat),J (sl:Nat),J (wk:Nat),J (wd:Nat),Ju (un:Nat)] 24::Bs):=t39;have h1:=Facts.out w38 _ 9 t39 rfl;refine hK _ _ ⟨fun _=>h1,?_⟩;have S40:=zd t39;clear hK K h1 t39 S37
    try simp only[Act.put,ag,ah,aj,aF,aB,aC]
    refine dB [] (bH (by kernel_rfl) ?_);refine aY [19] ?_
    repeat (refine ay _ rfl (by kernel_rfl) (fun _ _ _ h=>h) (fun w'=>by(try simp only[ag,ah,aj]);go_simp;try with_reducible rfl) ?_;try simp only[Act.put,ag,ah,aj,aF,aB,aC])
    refine aH ?_;refine af 20 (by kernel_rfl) rfl (by rfl) fun K hK=>?_
    go_simp;refine hK _ _ ?_;clear hK K
    try simp only[Act.put,ag,ah,aj,aF,aB,aC]
    refine af 21 (by kernel_rfl) rfl (by rfl) fun K hK=>?_
    go_simp;refine hK _ _ ?_;clear hK K
    try simp only[Act.put,ag,ah,aj,aF,aB,aC]
    refine af 22 (by kernel_rfl) rfl (by rfl) fun K hK=>?_
    go_simp;refine hK _ _ ?_;clear hK K
    try simp only[Act.put,ag,ah,aj,aF,aB,aC]
    refine wpAny_done (by kernel_rfl) ?_ _
    go_wp2
    have s3:=S40.out.box [ptr pm,ptr p1,ptr p2,ptr p3,ptr p4,J (sh:Nat),J (sl:Nat),J (wk:Nat),J (wd:Nat),Ju (un:Nat),nS,.map (some mp),nS] 76;refine bodyPost_ret (v:=.tuple #[ptr w38.heap.size,J 0]) (by simp[results,results25,go_sem]) rfl ⟨⟨w38.heap.size,pm,p1,b1,p2,p3,ba,br,p4,mp,sh,sl,wk,wd,un⟩,⟨rfl,rfl,rfl,rfl,rfl⟩,rfl,qH (((((((((((((Scope.perm s3 List.perm_append_comm:Scope S w0 _ (box w38.heap.size [ptr pm,ptr p1,ptr p2,ptr p3,ptr p4,J (sh:Nat),J (sl:Nat),J (wk:Nat),J (wd:Nat),Ju (un:Nat),nS,.map (some mp),nS] 76::(eP p4 wd (.new sh)::iE ba []::ik br xe []::box p3 [ptr pm,J (wk:Nat),.map (some ba),.map (some br)] 130::jT mp (fun _=>0)::box p2 [ptr pm,J (sh:Nat),J (sl:Nat)] 126::dG b1 (fun _=>0)::box p1 [ptr pm,J (sh:Nat),.map (some b1),.func (.func 44) #[J 9] #[],.func (.func 44) #[J 14] #[]] 124::bF pm MS.zero::box B [J (sh:Nat),J (sl:Nat),J (wk:Nat),J (wd:Nat),Ju (un:Nat)] 24::Bs))).front 10 rfl).front 6 rfl).front 3 rfl).front 5 rfl).front 5 rfl).front 6 rfl).front 7 rfl).front 8 rfl).front 9 rfl).front 9 rfl).front 10 rfl))⟩
  ·refine cO rfl (by rfl) (fun K hK=>?_)
   go_simp;obtain⟨w41,hw41⟩:∃ w41,w41=w11.alloc (.map #[] 0):=⟨_,rfl⟩
   have t42:Scope S w0 w41 ([jT w11.heap.size (fun _=>0)]++(dG b1 (fun _=>0)::box p1 [ptr pm,J (sh:Nat),.map (some b1),.func (.func 44) #[J 9] #[],.func (.func 44) #[J 14] #[]] 124::bF pm MS.zero::box B [J (sh:Nat),J (sl:Nat),J (wk:Nat),J (wd:Nat),Ju (un:Nat)] 24::Bs)):=by rw[hw41];exact S13.out.joinL (g:=[w11.heap.size]) (dh (A:=jT w11.heap.size (fun _=>0)) ⟨⟨_,fM.made _ _ w11,fun id=>rfl⟩,rfl⟩) ((dE.refl _ _).alloc _) (by simp)
   rw[←hw41];obtain⟨mp,hmp⟩:∃ mp,mp=w11.heap.size:=⟨_,rfl⟩
   rw[←hmp]at t42 ⊢
   clear hw41 hmp;have t42:Scope S w0 w41 (jT mp (fun _=>0)::dG b1 (fun _=>0)::box p1 [ptr pm,J (sh:Nat),.map (some b1),.func (.func 44) #[J 9] #[],.func (.func 44) #[J 14] #[]] 124::bF pm MS.zero::box B [J (sh:Nat),J (sl:Nat),J (wk:Nat),J (wd:Nat),Ju (un:Nat)] 24::Bs):=t42;have h1:=Facts.out w41 _ 4 t42 rfl;refine hK _ _ ⟨fun _=>h1,?_⟩;have S43:=zd t42;clear hK K h1 t42 S13
   try simp only[Act.put,ag,ah,aj,aF,aB,aC]
   refine dS (rs:=[10]) (by kernel_rfl) (by simp) (fun iQ hiQ=>?_);obtain rfl:iQ=10:=by simpa using hiQ
   refine cO rfl (by rfl) (fun K hK=>?_);go_simp;refine(pO S43.out pm (sh:Nat) (sl:Nat)).mono ?_
   rintro er w44 ⟨p2,rfl,t45⟩
   rw[show cl (sh:Int)=(sh:Nat) by have:=H.out.sh1;have:=H.out.sh4;unfold cl;omega,show cl (sl:Int)=(sl:Nat) by have:=H.out.sl1;have:=H.out.sl4;unfold cl;omega]at t45;have t45:Scope S w0 w44 (box p2 [ptr pm,J (sh:Nat),J (sl:Nat)] 126::jT mp (fun _=>0)::dG b1 (fun _=>0)::box p1 [ptr pm,J (sh:Nat),.map (some b1),.func (.func 44) #[J 9] #[],.func (.func 44) #[J 14] #[]] 124::bF pm MS.zero::box B [J (sh:Nat),J (sl:Nat),J (wk:Nat),J (wd:Nat),Ju (un:Nat)] 24::Bs):=Scope.perm t45 List.perm_append_comm;have h1:=Facts.out w44 _ 5 t45 rfl;refine hK _ _ ⟨fun _=>h1,?_⟩;have S46:=zd t45;clear hK K h1 t45 S43
   try simp only[Act.put,ag,ah,aj,aF,aB,aC]
   refine dS (rs:=[14]) (by kernel_rfl) (by simp) (fun iQ hiQ=>?_);obtain rfl:iQ=14:=by simpa using hiQ
   refine cO rfl (by rfl) (fun K hK=>?_);go_simp;refine(qc S46.out pm (wk:Nat)).mono ?_
   rintro er w47 ⟨p3,ba,br,rfl,t48⟩
   rw[show OM (wk:Int)=(wk:Nat) by have:=H.out.wk1;have:=H.out.wk6;unfold OM;omega,List.append_assoc,List.append_assoc]at t48;have t48:Scope S w0 w47 (iE ba []::ik br xe []::box p3 [ptr pm,J (wk:Nat),.map (some ba),.map (some br)] 130::box p2 [ptr pm,J (sh:Nat),J (sl:Nat)] 126::jT mp (fun _=>0)::dG b1 (fun _=>0)::box p1 [ptr pm,J (sh:Nat),.map (some b1),.func (.func 44) #[J 9] #[],.func (.func 44) #[J 14] #[]] 124::bF pm MS.zero::box B [J (sh:Nat),J (sl:Nat),J (wk:Nat),J (wd:Nat),Ju (un:Nat)] 24::Bs):=Scope.perm t48 List.perm_append_comm;have h1:=Facts.out w47 _ 8 t48 rfl;refine hK _ _ ⟨fun _=>h1,?_⟩;have S49:=zd t48;clear hK K h1 t48 S46
   try simp only[Act.put,ag,ah,aj,aF,aB,aC]
   refine dS (rs:=[16]) (by kernel_rfl) (by simp) (fun iQ hiQ=>?_);obtain rfl:iQ=16:=by simpa using hiQ
   refine cO rfl (by rfl) (fun K hK=>?_);go_simp;refine(mZ H.out.sh1 H.out.sh4 H.out.wd (sl:Nat) (wk:Nat) un S49.out).mono ?_
   rintro er w50 ⟨p4,rfl,t51⟩
   have t51:Scope S w0 w50 (eP p4 wd (.new sh)::iE ba []::ik br xe []::box p3 [ptr pm,J (wk:Nat),.map (some ba),.map (some br)] 130::box p2 [ptr pm,J (sh:Nat),J (sl:Nat)] 126::jT mp (fun _=>0)::dG b1 (fun _=>0)::box p1 [ptr pm,J (sh:Nat),.map (some b1),.func (.func 44) #[J 9] #[],.func (.func 44) #[J 14] #[]] 124::bF pm MS.zero::box B [J (sh:Nat),J (sl:Nat),J (wk:Nat),J (wd:Nat),Ju (un:Nat)] 24::Bs):=t51;have h1:=Facts.out w50 _ 9 t51 rfl;refine hK _ _ ⟨fun _=>h1,?_⟩;have S52:=zd t51;clear hK K h1 t51 S49
   try simp only[Act.put,ag,ah,aj,aF,aB,aC]
   refine dB [] (bH (by kernel_rfl) ?_);refine aY [19] ?_
   repeat (refine ay _ rfl (by kernel_rfl) (fun _ _ _ h=>h) (fun w'=>by(try simp only[ag,ah,aj]);go_simp;try with_reducible rfl) ?_;try simp only[Act.put,ag,ah,aj,aF,aB,aC])
   refine aH ?_;refine af 20 (by kernel_rfl) rfl (by rfl) fun K hK=>?_
   go_simp;refine hK _ _ ?_;clear hK K
   try simp only[Act.put,ag,ah,aj,aF,aB,aC]
   refine af 21 (by kernel_rfl) rfl (by rfl) fun K hK=>?_
   go_simp;refine hK _ _ ?_;clear hK K
   try simp only[Act.put,ag,ah,aj,aF,aB,aC]
   refine af 22 (by kernel_rfl) rfl (by rfl) fun K hK=>?_
   go_simp;refine hK _ _ ?_;clear hK K
   try simp only[Act.put,ag,ah,aj,aF,aB,aC]
   refine wpAny_done (by kernel_rfl) ?_ _
   go_wp2
   have s3:=S52.out.box [ptr pm,ptr p1,ptr p2,ptr p3,ptr p4,J (sh:Nat),J (sl:Nat),J (wk:Nat),J (wd:Nat),Ju (un:Nat),nS,.map (some mp),nS] 76;refine bodyPost_ret (v:=.tuple #[ptr w50.heap.size,J 0]) (by simp[results,results25,go_sem]) rfl ⟨⟨w50.heap.size,pm,p1,b1,p2,p3,ba,br,p4,mp,sh,sl,wk,wd,un⟩,⟨rfl,rfl,rfl,rfl,rfl⟩,rfl,qH (((((((((((((Scope.perm s3 List.perm_append_comm:Scope S w0 _ (box w50.heap.size [ptr pm,ptr p1,ptr p2,ptr p3,ptr p4,J (sh:Nat),J (sl:Nat),J (wk:Nat),J (wd:Nat),Ju (un:Nat),nS,.map (some mp),nS] 76::(eP p4 wd (.new sh)::iE ba []::ik br xe []::box p3 [ptr pm,J (wk:Nat),.map (some ba),.map (some br)] 130::box p2 [ptr pm,J (sh:Nat),J (sl:Nat)] 126::jT mp (fun _=>0)::dG b1 (fun _=>0)::box p1 [ptr pm,J (sh:Nat),.map (some b1),.func (.func 44) #[J 9] #[],.func (.func 44) #[J 14] #[]] 124::bF pm MS.zero::box B [J (sh:Nat),J (sl:Nat),J (wk:Nat),J (wd:Nat),Ju (un:Nat)] 24::Bs))).front 10 rfl).front 7 rfl).front 3 rfl).front 5 rfl).front 5 rfl).front 6 rfl).front 7 rfl).front 8 rfl).front 9 rfl).front 9 rfl).front 10 rfl))⟩
 ·refine cO rfl (by rfl) (fun K hK=>?_)
  go_simp;obtain⟨w53,hw53⟩:∃ w53,w53=V.alloc (.map #[] 0):=⟨_,rfl⟩
  have t54:Scope S w0 w53 ([jT V.heap.size (fun _=>0)]++(bF pm MS.zero::box B [J (sh:Nat),J (sl:Nat),J (wk:Nat),J (wd:Nat),Ju (un:Nat)] 24::Bs)):=by rw[hw53];exact S3.out.joinL (g:=[V.heap.size]) (dh (A:=jT V.heap.size (fun _=>0)) ⟨⟨_,fM.made _ _ V,fun id=>rfl⟩,rfl⟩) ((dE.refl _ _).alloc _) (by simp)
  rw[←hw53];obtain⟨mp,hmp⟩:∃ mp,mp=V.heap.size:=⟨_,rfl⟩
  rw[←hmp]at t54 ⊢
  clear hw53 hmp;have t54:Scope S w0 w53 (jT mp (fun _=>0)::bF pm MS.zero::box B [J (sh:Nat),J (sl:Nat),J (wk:Nat),J (wd:Nat),Ju (un:Nat)] 24::Bs):=t54;have h1:=Facts.out w53 _ 2 t54 rfl;refine hK _ _ ⟨fun _=>h1,?_⟩;have S55:=zd t54;clear hK K h1 t54 S3
  try simp only[Act.put,ag,ah,aj,aF,aB,aC]
  refine dS (rs:=[4]) (by kernel_rfl) (by simp) (fun iQ hiQ=>?_);obtain rfl:iQ=4:=by simpa using hiQ
  refine cO rfl (by rfl) (fun K hK=>?_);go_simp;refine(yE S55.out pm (sh:Nat)).mono ?_
  rintro er w56 ⟨p1,b1,rfl,t57⟩
  rw[show cl (sh:Int)=(sh:Nat) by have:=H.out.sh1;have:=H.out.sh4;unfold cl;omega,List.append_assoc]at t57;have t57:Scope S w0 w56 (dG b1 (fun _=>0)::box p1 [ptr pm,J (sh:Nat),.map (some b1),.func (.func 44) #[J 9] #[],.func (.func 44) #[J 14] #[]] 124::jT mp (fun _=>0)::bF pm MS.zero::box B [J (sh:Nat),J (sl:Nat),J (wk:Nat),J (wd:Nat),Ju (un:Nat)] 24::Bs):=Scope.perm t57 List.perm_append_comm;have h1:=Facts.out w56 _ 4 t57 rfl;refine hK _ _ ⟨fun _=>h1,?_⟩;have S58:=zd t57;clear hK K h1 t57 S55
  try simp only[Act.put,ag,ah,aj,aF,aB,aC]
  refine dS (rs:=[10]) (by kernel_rfl) (by simp) (fun iQ hiQ=>?_);obtain rfl:iQ=10:=by simpa using hiQ
  refine cO rfl (by rfl) (fun K hK=>?_);go_simp;refine(pO S58.out pm (sh:Nat) (sl:Nat)).mono ?_
  rintro er w59 ⟨p2,rfl,t60⟩
  rw[show cl (sh:Int)=(sh:Nat) by have:=H.out.sh1;have:=H.out.sh4;unfold cl;omega,show cl (sl:Int)=(sl:Nat) by have:=H.out.sl1;have:=H.out.sl4;unfold cl;omega]at t60;have t60:Scope S w0 w59 (box p2 [ptr pm,J (sh:Nat),J (sl:Nat)] 126::dG b1 (fun _=>0)::box p1 [ptr pm,J (sh:Nat),.map (some b1),.func (.func 44) #[J 9] #[],.func (.func 44) #[J 14] #[]] 124::jT mp (fun _=>0)::bF pm MS.zero::box B [J (sh:Nat),J (sl:Nat),J (wk:Nat),J (wd:Nat),Ju (un:Nat)] 24::Bs):=Scope.perm t60 List.perm_append_comm;have h1:=Facts.out w59 _ 5 t60 rfl;refine hK _ _ ⟨fun _=>h1,?_⟩;have S61:=zd t60;clear hK K h1 t60 S58
  try simp only[Act.put,ag,ah,aj,aF,aB,aC]
  refine dS (rs:=[14]) (by kernel_rfl) (by simp) (fun iQ hiQ=>?_);obtain rfl:iQ=14:=by simpa using hiQ
  refine cO rfl (by rfl) (fun K hK=>?_);go_simp;refine(qc S61.out pm (wk:Nat)).mono ?_
  rintro er w62 ⟨p3,ba,br,rfl,t63⟩
  rw[show OM (wk:Int)=(wk:Nat) by have:=H.out.wk1;have:=H.out.wk6;unfold OM;omega,List.append_assoc,List.append_assoc]at t63;have t63:Scope S w0 w62 (iE ba []::ik br xe []::box p3 [ptr pm,J (wk:Nat),.map (some ba),.map (some br)] 130::box p2 [ptr pm,J (sh:Nat),J (sl:Nat)] 126::dG b1 (fun _=>0)::box p1 [ptr pm,J (sh:Nat),.map (some b1),.func (.func 44) #[J 9] #[],.func (.func 44) #[J 14] #[]] 124::jT mp (fun _=>0)::bF pm MS.zero::box B [J (sh:Nat),J (sl:Nat),J (wk:Nat),J (wd:Nat),Ju (un:Nat)] 24::Bs):=Scope.perm t63 List.perm_append_comm;have h1:=Facts.out w62 _ 8 t63 rfl;refine hK _ _ ⟨fun _=>h1,?_⟩;have S64:=zd t63;clear hK K h1 t63 S61
  try simp only[Act.put,ag,ah,aj,aF,aB,aC]
  refine dS (rs:=[16]) (by kernel_rfl) (by simp) (fun iQ hiQ=>?_);obtain rfl:iQ=16:=by simpa using hiQ
  refine cO rfl (by rfl) (fun K hK=>?_);go_simp;refine(mZ H.out.sh1 H.out.sh4 H.out.wd (sl:Nat) (wk:Nat) un S64.out).mono ?_
  rintro er w65 ⟨p4,rfl,t66⟩
  have t66:Scope S w0 w65 (eP p4 wd (.new sh)::iE ba []::ik br xe []::box p3 [ptr pm,J (wk:Nat),.map (some ba),.map (some br)] 130::box p2 [ptr pm,J (sh:Nat),J (sl:Nat)] 126::dG b1 (fun _=>0)::box p1 [ptr pm,J (sh:Nat),.map (some b1),.func (.func 44) #[J 9] #[],.func (.func 44) #[J 14] #[]] 124::jT mp (fun _=>0)::bF pm MS.zero::box B [J (sh:Nat),J (sl:Nat),J (wk:Nat),J (wd:Nat),Ju (un:Nat)] 24::Bs):=t66;have h1:=Facts.out w65 _ 9 t66 rfl;refine hK _ _ ⟨fun _=>h1,?_⟩;have S67:=zd t66;clear hK K h1 t66 S64
  try simp only[Act.put,ag,ah,aj,aF,aB,aC]
  refine dB [] (bH (by kernel_rfl) ?_);refine aY [19] ?_
  repeat (refine ay _ rfl (by kernel_rfl) (fun _ _ _ h=>h) (fun w'=>by(try simp only[ag,ah,aj]);go_simp;try with_reducible rfl) ?_;try simp only[Act.put,ag,ah,aj,aF,aB,aC])
  refine aH ?_;refine af 20 (by kernel_rfl) rfl (by rfl) fun K hK=>?_
  go_simp;refine hK _ _ ?_;clear hK K
  try simp only[Act.put,ag,ah,aj,aF,aB,aC]
  refine af 21 (by kernel_rfl) rfl (by rfl) fun K hK=>?_
  go_simp;refine hK _ _ ?_;clear hK K
  try simp only[Act.put,ag,ah,aj,aF,aB,aC]
  refine af 22 (by kernel_rfl) rfl (by rfl) fun K hK=>?_
  go_simp;refine hK _ _ ?_;clear hK K
  try simp only[Act.put,ag,ah,aj,aF,aB,aC]
  refine wpAny_done (by kernel_rfl) ?_ _
  go_wp2
  have s3:=S67.out.box [ptr pm,ptr p1,ptr p2,ptr p3,ptr p4,J (sh:Nat),J (sl:Nat),J (wk:Nat),J (wd:Nat),Ju (un:Nat),nS,.map (some mp),nS] 76;refine bodyPost_ret (v:=.tuple #[ptr w65.heap.size,J 0]) (by simp[results,results25,go_sem]) rfl ⟨⟨w65.heap.size,pm,p1,b1,p2,p3,ba,br,p4,mp,sh,sl,wk,wd,un⟩,⟨rfl,rfl,rfl,rfl,rfl⟩,rfl,qH (((((((((((((Scope.perm s3 List.perm_append_comm:Scope S w0 _ (box w65.heap.size [ptr pm,ptr p1,ptr p2,ptr p3,ptr p4,J (sh:Nat),J (sl:Nat),J (wk:Nat),J (wd:Nat),Ju (un:Nat),nS,.map (some mp),nS] 76::(eP p4 wd (.new sh)::iE ba []::ik br xe []::box p3 [ptr pm,J (wk:Nat),.map (some ba),.map (some br)] 130::box p2 [ptr pm,J (sh:Nat),J (sl:Nat)] 126::dG b1 (fun _=>0)::box p1 [ptr pm,J (sh:Nat),.map (some b1),.func (.func 44) #[J 9] #[],.func (.func 44) #[J 14] #[]] 124::jT mp (fun _=>0)::bF pm MS.zero::box B [J (sh:Nat),J (sl:Nat),J (wk:Nat),J (wd:Nat),Ju (un:Nat)] 24::Bs))).front 10 rfl).front 9 rfl).front 3 rfl).front 5 rfl).front 5 rfl).front 6 rfl).front 7 rfl).front 8 rfl).front 9 rfl).front 9 rfl).front 10 rfl))⟩
end
structure vw (n:Nat) (σ:MS):Prop where
 u:∀ l,dC (σ.num l)
 slot:∀ k i,jI (σ.num (slotL k i))=true→0≤dL (σ.num (slotL k i))∧dL (σ.num (slotL k i))<n
 inb:∀ k,σ.num (fB k)≤n
theorem jd.m {s:PS} {N:Nat} (h:jd s N):vw s.ob.length s.σ:=⟨h.u,h.slot,h.inb⟩
section
variable {n:Nat} {σ:MS}
theorem vw.put (h:vw n σ) (who kd:Int) (l:Lc):vw n (σ.put who kd l):=⟨h.u,h.slot,h.inb⟩
theorem vw.mono (h:vw n σ) {m:Nat} (hm:n≤m):vw m σ:=⟨h.u,fun k i hb=>by have:=h.slot k i hb;omega,fun k=>by have:=h.inb k;omega⟩
theorem vw.set (h:vw n σ) {l:Lc} {v:Int} (hv:dC v) (h1:l.k=10→jI v=true→0≤dL v∧dL v<n) (h2:l.k=9→v≤n):vw n (σ.set l v):=by
 refine⟨fun x=>?_,fun k i=>?_,fun k=>?_⟩
 ·show dC (if x=l then v else σ.num x)
  split
  ·exact hv
  ·exact h.u x
 ·show jI (if slotL k i=l then v else σ.num (slotL k i))=true→0≤dL (if slotL k i=l then v else σ.num (slotL k i))∧dL (if slotL k i=l then v else σ.num (slotL k i))<n
  split
  ·rename_i e;subst e;exact h1 rfl
  ·exact h.slot k i
 ·show(if fB k=l then v else σ.num (fB k))≤n
  split
  ·rename_i e;subst e;exact h2 rfl
  ·exact h.inb k
theorem vw.set' (h:vw n σ) {l:Lc} {v:Int} (hv:dC v) (h1:l.k≠10) (h2:l.k≠9):vw n (σ.set l v):=h.set hv (fun e=>absurd e h1) (fun e=>absurd e h2)
theorem vw.swap (h:vw n σ) (who:Int) {l:Lc} (was:Int) {now:Int} (hv:dC now) (h1:l.k=10→jI now=true→0≤dL now∧dL now<n) (h2:l.k=9→now≤n):vw n (σ.swap who l was now):=by
 unfold MS.swap
 split
 ·exact(h.put who 3 l).set hv h1 h2
 ·exact h.put who 4 l
theorem vw.turn (h:vw n σ) (who obj:Int) (how:Nat) (x:Int):vw n (σ.turn who obj how x):=by
 unfold MS.turn
 split
 ·rename_i hb
  exact h.swap who x (TB hb) (fun e=>by simp at e) (fun e=>by simp at e)
 ·exact h
theorem aZ (who kd:Int) (l:Lc):(σ.put who kd l).log.length=σ.log.length+1:=by simp[MS.put]
theorem gy (l:Lc) (v:Int):(σ.set l v).log.length=σ.log.length:=rfl
theorem iy (who:Int) (l:Lc) (was now:Int):(σ.swap who l was now).log.length=σ.log.length+1:=by unfold MS.swap;split<;>simp[MS.put,MS.set]
theorem nM (who obj:Int) (how:Nat) (x:Int):(σ.turn who obj how x).log.length≤σ.log.length+1:=by unfold MS.turn;split<;>simp[iy]
end
theorem dC.wrap (n:Int):dC (IntKind.u64.wrap n):=by rw[IntKind.wrap_u64];unfold dC;omega
theorem dC.zero:dC 0:=by unfold dC;omega
theorem dC.one:dC 1:=by unfold dC;omega
theorem dC.two:dC 2:=by unfold dC;omega
theorem sU.mono {s s':PS} {o:Int} (h:sU s o) (hle:s.ob.length≤s'.ob.length):sU s' o:=⟨h.1,by have:=h.2;omega⟩
theorem jd.next {s s':PS} {N:Nat} (h:jd s N) (hm:vw s'.ob.length s'.σ) (hl:s'.σ.log.length≤s.σ.log.length+4) (hp:s'.pt.length≤s.pt.length+2) (ho:s'.ob.length≤s.ob.length+1)
  (hcs:∀ x∈s'.ob,0<x.cs.length∧x.cs.length≤8∧I64 x.o.flow∧x.o.r<18446744073709551616∧∀ k∈x.cs,I64 k.len) (hnx:∀ o,0≤s'.nx o∧s'.nx o≤s'.ob.length):jd s' (N+1):=
 ⟨hm.u,by have:=h.log;omega,by have:=h.pt;omega,by have:=h.ob;omega,hcs,hm.slot,hm.inb,hnx⟩
theorem jd.σ {s:PS} {N:Nat} (h:jd s N) {σ':MS} (hm:vw s.ob.length σ') (hl:σ'.log.length≤s.σ.log.length+4):jd { s with σ:=σ' } (N+1):=h.next hm hl (by simp) (by simp) h.cs h.nx
theorem jd.σn {s:PS} {N:Nat} (h:jd s N) {σ':MS} (hm:vw s.ob.length σ') (hl:σ'.log.length≤s.σ.log.length+4) (a b:Int) (r:Rt):jd (({ s with σ:=σ' }:PS).note a b r) (N+1):=h.next hm hl (by simp[PS.note]) (by simp[PS.note]) h.cs h.nx
theorem jd.n {s:PS} {N:Nat} (h:jd s N) (a b:Int) (r:Rt):jd (s.note a b r) (N+1):=h.next h.m (by simp[PS.note]) (by simp[PS.note]) (by simp[PS.note]) h.cs h.nx
theorem Lj {s:PS} {o:Int} (h:sU s o) (hl:s.ob.length<100000):CO o=o+1:=by
 have h0:=h.1;have h1:=h.2;unfold CO;rw[IntKind.wrap_u64,IntKind.wrap_u64]
 omega
theorem TD {flow obj:Int} (h:yN flow obj=true):dL (uJ flow obj)=obj:=by
 unfold yN at h;have h:=of_decide_eq_true h;unfold dL uJ;rw[if_neg (by omega)]
 omega
theorem vw.uf {n:Nat} {σ:MS} (h:vw n σ) (who k i flow obj:Int) (ho:obj<n):vw n (σ.uf who k i flow obj):=by
 unfold MS.uf
 split
 ·rename_i hb
  have hg:=of_decide_eq_true hb;refine(h.put _ _ _).set (KZ hg.1 hg.2.1 hg.2.2.1 hg.2.2.2) (fun _ _=>?_) (fun e=>by simp at e);rw[TD hb]
  exact⟨hg.2.2.1,ho⟩
 ·exact h
theorem Po {σ:MS} (who k i flow obj:Int):(σ.uf who k i flow obj).log.length≤σ.log.length+1:=by unfold MS.uf;split<;>simp[MS.put,MS.set]
section
variable {A:PA} {s:PS} {N:Nat} {E:jQ}
theorem A8 (now:Int) (hA:Aq A) (hN:N≤20000) (hP:jd s N) (hE:zK A s E):jd (aW s E A.sl now).s (N+1)∧((aW s E A.sl now).d=false→zK A (aW s E A.sl now).s (aW s E A.sl now).E)∧(aW s E A.sl now).s.ob.length=s.ob.length∧(aW s E A.sl now).s.k=s.k∧(aW s E A.sl now).E.who=E.who:=by
 have hm:=hP.m;have sl4:=hA.sl4;have sl1:=hA.sl1;have hoN:=hP.o hN
 cases hst:E.st with
 |first=>
  rw[show aW s E A.sl now=gB s E A.sl now by unfold aW;rw[hst]];have hsc:=hE.scan (.inl hst);unfold gB
  cases hc:(decide (E.c.a<1)||decide (65536<E.c.a))with
  |true=>exact⟨hP.n _ _ _,fun h=>(by cases h),rfl,rfl,rfl⟩
  |false=>
   cases hc2:(decide (E.c.flow<0)||decide (1048576<E.c.flow))with
   |true=>exact⟨hP.n _ _ _,fun h=>(by cases h),rfl,rfl,rfl⟩
   |false=>
    simp only[cond_false]
    cases hb:jJ s E with
    |true=>
     rw[show ed s E A.sl=⟨jw s E,{ fU s E with st:=.look },0,false⟩ by unfold ed;rw[hb];rfl];have hv:jI (jB s E)=true:=by unfold jJ at hb;simp only[Bool.and_eq_true]at hb;exact hb.1
     exact⟨hP.σ (hm.put _ _ _) (by rw[aZ];omega),fun _=>{ who:=hE.who,sh:=hE.sh,i:=⟨(by have:=hE.i.1;show 0≤E.i+1;omega),(by show E.i+1≤4;omega)⟩,scan:=fun h=>(by rcases h with h|h|h<;>cases h),w:=hE.w,top:=hE.top,found:=fun _=>(by show sU _ (cond (jJ s E) (dL (jB s E)) E.obj);rw[hb];exact hP.slot _ _ hv),look:=fun _=>hb,obj:=fun h=>(by cases h),rg:=fun h=>(by cases h),r:=hE.r,len:=hE.len },rfl,rfl,rfl⟩
    |false=>
     have hfd:(fU s E).found=true→sU s (fU s E).obj:=fun h=>by rw[show(fU s E).found=false from hb]at h;cases h
     cases hl:decide ((A.sl:Int)≤E.i+1)with
     |true=>rw[show ed s E A.sl=⟨jw s E,{ fU s E with st:=.lock },0,false⟩ by unfold ed;rw[hb,hl];rfl];exact⟨hP.σ (hm.put _ _ _) (by rw[aZ];omega),fun _=>{ who:=hE.who,sh:=hE.sh,i:=⟨(by have:=hE.i.1;show 0≤E.i+1;omega),(by show E.i+1≤4;omega)⟩,scan:=fun h=>(by rcases h with h|h|h<;>cases h),w:=hE.w,top:=hE.top,found:=hfd,look:=fun h=>(by cases h),obj:=fun h=>(by cases h),rg:=fun h=>(by cases h),r:=hE.r,len:=hE.len },rfl,rfl,rfl⟩
     |false=>rw[show ed s E A.sl=⟨jw s E,{ fU s E with st:=.scan },0,false⟩ by unfold ed;rw[hb,hl];rfl];exact⟨hP.σ (hm.put _ _ _) (by rw[aZ];omega),fun _=>{ who:=hE.who,sh:=hE.sh,i:=⟨(by have:=hE.i.1;show 0≤E.i+1;omega),(by show E.i+1≤4;omega)⟩,scan:=fun _=>(by have:=of_decide_eq_false hl;show E.i+1<A.sl;omega),w:=hE.w,top:=hE.top,found:=hfd,look:=fun h=>(by cases h),obj:=fun h=>(by cases h),rg:=fun h=>(by cases h),r:=hE.r,len:=hE.len },rfl,rfl,rfl⟩
 |scan=>
  rw[show aW s E A.sl now=ed s E A.sl by unfold aW;rw[hst]];have hsc:=hE.scan (.inr (.inl hst))
  cases hb:jJ s E with
  |true=>
   rw[show ed s E A.sl=⟨jw s E,{ fU s E with st:=.look },0,false⟩ by unfold ed;rw[hb];rfl];have hv:jI (jB s E)=true:=by unfold jJ at hb;simp only[Bool.and_eq_true]at hb;exact hb.1
   exact⟨hP.σ (hm.put _ _ _) (by rw[aZ];omega),fun _=>{ who:=hE.who,sh:=hE.sh,i:=⟨(by have:=hE.i.1;show 0≤E.i+1;omega),(by show E.i+1≤4;omega)⟩,scan:=fun h=>(by rcases h with h|h|h<;>cases h),w:=hE.w,top:=hE.top,found:=fun _=>(by show sU _ (cond (jJ s E) (dL (jB s E)) E.obj);rw[hb];exact hP.slot _ _ hv),look:=fun _=>hb,obj:=fun h=>(by cases h),rg:=fun h=>(by cases h),r:=hE.r,len:=hE.len },rfl,rfl,rfl⟩
  |false=>
   have hfd:(fU s E).found=true→sU s (fU s E).obj:=fun h=>by rw[show(fU s E).found=false from hb]at h;cases h
   cases hl:decide ((A.sl:Int)≤E.i+1)with
   |true=>rw[show ed s E A.sl=⟨jw s E,{ fU s E with st:=.lock },0,false⟩ by unfold ed;rw[hb,hl];rfl];exact⟨hP.σ (hm.put _ _ _) (by rw[aZ];omega),fun _=>{ who:=hE.who,sh:=hE.sh,i:=⟨(by have:=hE.i.1;show 0≤E.i+1;omega),(by show E.i+1≤4;omega)⟩,scan:=fun h=>(by rcases h with h|h|h<;>cases h),w:=hE.w,top:=hE.top,found:=hfd,look:=fun h=>(by cases h),obj:=fun h=>(by cases h),rg:=fun h=>(by cases h),r:=hE.r,len:=hE.len },rfl,rfl,rfl⟩
   |false=>rw[show ed s E A.sl=⟨jw s E,{ fU s E with st:=.scan },0,false⟩ by unfold ed;rw[hb,hl];rfl];exact⟨hP.σ (hm.put _ _ _) (by rw[aZ];omega),fun _=>{ who:=hE.who,sh:=hE.sh,i:=⟨(by have:=hE.i.1;show 0≤E.i+1;omega),(by show E.i+1≤4;omega)⟩,scan:=fun _=>(by have:=of_decide_eq_false hl;show E.i+1<A.sl;omega),w:=hE.w,top:=hE.top,found:=hfd,look:=fun h=>(by cases h),obj:=fun h=>(by cases h),rg:=fun h=>(by cases h),r:=hE.r,len:=hE.len },rfl,rfl,rfl⟩
 |lock=>
  rw[show aW s E A.sl now=⟨{ s with σ:=s.σ.swap E.who (ja E.shard) 0 1 },kY s E,0,false⟩ by unfold aW;rw[hst]]
  by_cases hc:s.σ.num (ja E.shard)=0
  ·rw[show kY s E={ E with i:=0,st:=.search } by unfold kY;rw[if_pos hc]];exact⟨hP.σ (hm.swap _ _ dC.one (fun e=>by simp at e) (fun e=>by simp at e)) (by rw[iy];omega),fun _=>{ who:=hE.who,sh:=hE.sh,i:=⟨(by simp),(by simp)⟩,scan:=fun _=>(by show(0:Int)<A.sl;omega),w:=hE.w,top:=hE.top,found:=hE.found,look:=fun h=>(by cases h),obj:=fun h=>(by cases h),rg:=fun h=>(by cases h),r:=hE.r,len:=hE.len },rfl,rfl,rfl⟩
  ·rw[show kY s E={ E with st:=.lock } by unfold kY;rw[if_neg hc]];exact⟨hP.σ (hm.swap _ _ dC.one (fun e=>by simp at e) (fun e=>by simp at e)) (by rw[iy];omega),fun _=>{ who:=hE.who,sh:=hE.sh,i:=hE.i,scan:=fun h=>(by rcases h with h|h|h<;>cases h),w:=hE.w,top:=hE.top,found:=hE.found,look:=fun h=>(by cases h),obj:=fun h=>(by cases h),rg:=fun h=>(by cases h),r:=hE.r,len:=hE.len },rfl,rfl,rfl⟩
 |search=>
  rw[show aW s E A.sl now=fZ s E A.sl now by unfold aW;rw[hst]];have hsc:=hE.scan (.inr (.inr hst))
  cases hb:jJ s E with
  |true=>
   have hv:jI (jB s E)=true:=by unfold jJ at hb;simp only[Bool.and_eq_true]at hb;exact hb.1
   unfold fZ;rw[hb]
   exact⟨hP.σ (hm.put _ _ _) (by rw[aZ];omega),fun _=>{ who:=hE.who,sh:=hE.sh,i:=⟨(by have:=hE.i.1;show 0≤E.i+1;omega),(by show E.i+1≤4;omega)⟩,scan:=fun h=>(by rcases h with h|h|h<;>cases h),w:=hE.w,top:=hE.top,found:=fun _=>(by show sU _ (cond (jJ s E) (dL (jB s E)) E.obj);rw[hb];exact hP.slot _ _ hv),look:=fun h=>(by cases h),obj:=fun h=>(by cases h),rg:=fun h=>(by cases h),r:=hE.r,len:=hE.len },rfl,rfl,rfl⟩
  |false=>
   have hfd:(fU s E).found=true→sU s (fU s E).obj:=fun h=>by rw[show(fU s E).found=false from hb]at h;cases h
   unfold fZ;rw[hb]
   cases hl:decide ((A.sl:Int)≤E.i+1)with
   |true=>exact⟨hP.σn (hm.put _ _ _) (by rw[aZ];omega) _ _ _,fun _=>{ who:=hE.who,sh:=hE.sh,i:=⟨(by have:=hE.i.1;show 0≤E.i+1;omega),(by show E.i+1≤4;omega)⟩,scan:=fun h=>(by rcases h with h|h|h<;>cases h),w:=hE.w,top:=hE.top,found:=hfd,look:=fun h=>(by cases h),obj:=fun h=>(by cases h),rg:=fun h=>(by cases h),r:=hE.r,len:=hE.len },rfl,rfl,rfl⟩
   |false=>exact⟨hP.σ (hm.put _ _ _) (by rw[aZ];omega),fun _=>{ who:=hE.who,sh:=hE.sh,i:=⟨(by have:=hE.i.1;show 0≤E.i+1;omega),(by show E.i+1≤4;omega)⟩,scan:=fun _=>(by have:=of_decide_eq_false hl;show E.i+1<A.sl;omega),w:=hE.w,top:=hE.top,found:=hfd,look:=fun h=>(by cases h),obj:=fun h=>(by cases h),rg:=fun h=>(by cases h),r:=hE.r,len:=hE.len },rfl,rfl,rfl⟩
 |unlock=>
  rw[show aW s E A.sl now=iL s E by unfold aW;rw[hst]];unfold iL
  cases hf:E.found with
  |true=>exact⟨hP.σ ((hm.put _ _ _).set' dC.zero (by simp) (by simp)) (by rw[gy,aZ];omega),fun _=>{ who:=hE.who,sh:=hE.sh,i:=hE.i,scan:=fun h=>(by rcases h with h|h|h<;>cases h),w:=hE.w,top:=hE.top,found:=fun _=>hE.found hf,look:=fun _=>rfl,obj:=fun h=>(by cases h),rg:=fun h=>(by cases h),r:=hE.r,len:=hE.len },rfl,rfl,rfl⟩
  |false=>exact⟨hP.σ ((hm.put _ _ _).set' dC.zero (by simp) (by simp)) (by rw[gy,aZ];omega),fun h=>(by cases h),rfl,rfl,rfl⟩
 |look=>
  rw[show aW s E A.sl now=oG s E E.obj.toNat by unfold aW;rw[hst]];have hf:=hE.found (hE.look hst);have hlt:E.obj.toNat<s.ob.length:=by have:=hf.1;have:=hf.2;omega
  exact⟨hP.σ (hm.put _ _ _) (by rw[aZ];omega),fun _=>{ who:=hE.who,sh:=hE.sh,i:=hE.i,scan:=fun h=>(by rcases h with h|h|h<;>cases h),w:=hE.w,top:=hE.top,found:=hE.found,look:=fun h=>(by cases h),obj:=fun _=>hf,rg:=fun _=>⟨_,rfl⟩,r:=fun i h=>(by cases h;exact hlt),len:=hE.len },rfl,rfl,rfl⟩
 |word=>
  rw[show aW s E A.sl now=fJ s E .head by unfold aW;rw[hst]];have hr:E.st.ring=true:=by rw[hst];rfl
  unfold fJ
  cases hb:(wst (s.wd E)==2)with
  |true=>exact⟨hP.σ (hm.put _ _ _) (by rw[aZ];omega),fun _=>{ who:=hE.who,sh:=hE.sh,i:=hE.i,scan:=fun h=>(by rcases h with h|h|h<;>cases h),w:=hP.u _,top:=hE.top,found:=hE.found,look:=fun h=>(by cases h),obj:=fun h=>(by cases h),rg:=fun h=>(by cases h),r:=hE.r,len:=hE.len },rfl,rfl,rfl⟩
  |false=>exact⟨hP.σ (hm.put _ _ _) (by rw[aZ];omega),fun _=>{ who:=hE.who,sh:=hE.sh,i:=hE.i,scan:=fun h=>(by rcases h with h|h|h<;>cases h),w:=hP.u _,top:=hE.top,found:=hE.found,look:=fun h=>(by cases h),obj:=fun _=>hE.obj hr,rg:=fun _=>hE.rg hr,r:=hE.r,len:=hE.len },rfl,rfl,rfl⟩
 |head=>
  rw[show aW s E A.sl now=jZ s E by unfold aW;rw[hst]];have hr:E.st.ring=true:=by rw[hst];rfl
  unfold jZ
  cases hb:mM s E with
  |true=>exact⟨hP.σ (hm.put _ _ _) (by rw[aZ];omega),fun _=>{ who:=hE.who,sh:=hE.sh,i:=hE.i,scan:=fun h=>(by rcases h with h|h|h<;>cases h),w:=hE.w,top:=hE.top,found:=hE.found,look:=fun h=>(by cases h),obj:=fun _=>hE.obj hr,rg:=fun _=>hE.rg hr,r:=hE.r,len:=hE.len },rfl,rfl,rfl⟩
  |false=>cases hc:(wst E.w==1)with
   |true=>exact⟨hP.σ (hm.put _ _ _) (by rw[aZ];omega),fun _=>{ who:=hE.who,sh:=hE.sh,i:=hE.i,scan:=fun h=>(by rcases h with h|h|h<;>cases h),w:=hE.w,top:=hE.top,found:=hE.found,look:=fun h=>(by cases h),obj:=fun _=>hE.obj hr,rg:=fun _=>hE.rg hr,r:=hE.r,len:=hE.len },rfl,rfl,rfl⟩
   |false=>exact⟨hP.σ (hm.put _ _ _) (by rw[aZ];omega),fun _=>{ who:=hE.who,sh:=hE.sh,i:=hE.i,scan:=fun h=>(by rcases h with h|h|h<;>cases h),w:=hE.w,top:=hE.top,found:=hE.found,look:=fun h=>(by cases h),obj:=fun _=>hE.obj hr,rg:=fun _=>hE.rg hr,r:=hE.r,len:=hE.len },rfl,rfl,rfl⟩
 |claim=>
  rw[show aW s E A.sl now=dO s E now .put .word by unfold aW;rw[hst]];have hr:E.st.ring=true:=by rw[hst];rfl
  unfold dO
  cases hb:s.σ.turned (E.ri:Nat) 0 E.w with
  |true=>exact⟨hP.σn (hm.turn _ _ _ _) (by have:=nM (σ:=s.σ) E.who (E.ri:Nat) 0 E.w;omega) _ _ _,fun _=>{ who:=hE.who,sh:=hE.sh,i:=hE.i,scan:=fun h=>(by rcases h with h|h|h<;>cases h),w:=hE.w,top:=hE.top,found:=hE.found,look:=fun h=>(by cases h),obj:=fun _=>hE.obj hr,rg:=fun _=>hE.rg hr,r:=hE.r,len:=hE.len },rfl,rfl,rfl⟩
  |false=>exact⟨hP.σ (hm.turn _ _ _ _) (by have:=nM (σ:=s.σ) E.who (E.ri:Nat) 0 E.w;omega),fun _=>{ who:=hE.who,sh:=hE.sh,i:=hE.i,scan:=fun h=>(by rcases h with h|h|h<;>cases h),w:=hE.w,top:=hE.top,found:=hE.found,look:=fun h=>(by cases h),obj:=fun _=>hE.obj hr,rg:=fun _=>hE.rg hr,r:=hE.r,len:=hE.len },rfl,rfl,rfl⟩
 |put=>
  rw[show aW s E A.sl now=⟨fQ s E (s.uC E.ri).cs.length (s.uC E.ri),{ E with st:=.show' },0,false⟩ by unfold aW;rw[hst]];have hr:E.st.ring=true:=by rw[hst];rfl
  obtain⟨i,hi⟩:=hE.rg hr;have hlt:=hE.r i hi;have hri:E.ri=i:=by unfold jQ.ri;rw[hi];rfl
  have hx:s.uC E.ri=s.ob[i]:=by rw[hri];exact PS.Iy (List.getElem?_eq_getElem hlt)
  have hc:=hP.cs _ (List.getElem_mem hlt);refine⟨hP.next (by show vw (s.ob.set _ _).length _;rw[List.length_set];exact hm.put _ _ _) (by show(s.σ.put _ _ _).log.length≤_;rw[aZ];omega) (by simp[fQ]) (by simp[fQ]) (fun y hy=>?_) (fun o=>by have:=hP.nx o;simpa [fQ]using this),fun _=>{ who:=hE.who,sh:=hE.sh,i:=hE.i,scan:=fun h=>(by rcases h with h|h|h<;>cases h),w:=hE.w,top:=(by simpa [fQ]using hE.top),found:=fun h=>(hE.found h).mono (by simp[fQ]),look:=fun h=>(by cases h),obj:=fun _=>(hE.obj hr).mono (by simp[fQ]),rg:=fun _=>hE.rg hr,r:=fun i h=>(by have:=hE.r i h;simpa [fQ]using this),len:=hE.len },by simp[fQ],rfl,rfl⟩
  rcases List.mem_or_eq_of_mem_set hy with h|h
  ·exact hP.cs y h
  ·subst h;rw[hx];refine⟨by rw[List.length_set];exact hc.1,by rw[List.length_set];exact hc.2.1,hc.2.2.1,hc.2.2.2.1,fun k hk=>?_⟩;rcases List.mem_or_eq_of_mem_set hk with h|h
   ·exact hc.2.2.2.2 k h
   ·subst h;exact hE.len
 |show'=>
  rw[show aW s E A.sl now=⟨jq s E (s.uC E.ri).cs.length,E,0,true⟩ by unfold aW;rw[hst]]
  exact⟨hP.σ ((hm.put _ _ _).set' (dC.wrap _) (by simp) (by simp)) (by rw[gy,aZ];omega),fun h=>(by cases h),rfl,rfl,rfl⟩
 |begin=>
  rw[show aW s E A.sl now=⟨{ s with σ:=(s.σ.put E.who 3 df).set df (IntKind.u64.wrap (s.σ.num df+4294967296)) },{ E with st:=.wake },0,false⟩ by unfold aW;rw[hst]];have hr:E.st.ring=true:=by rw[hst];rfl
  exact⟨hP.σ ((hm.put _ _ _).set' (dC.wrap _) (by simp) (by simp)) (by rw[gy,aZ];omega),fun _=>{ who:=hE.who,sh:=hE.sh,i:=hE.i,scan:=fun h=>(by rcases h with h|h|h<;>cases h),w:=hE.w,top:=hE.top,found:=hE.found,look:=fun h=>(by cases h),obj:=fun _=>hE.obj hr,rg:=fun _=>hE.rg hr,r:=hE.r,len:=hE.len },rfl,rfl,rfl⟩
 |wake=>
  rw[show aW s E A.sl now=dO s E now .down .back by unfold aW;rw[hst]];have hr:E.st.ring=true:=by rw[hst];rfl
  unfold dO
  cases hb:s.σ.turned (E.ri:Nat) 0 E.w with
  |true=>exact⟨hP.σn (hm.turn _ _ _ _) (by have:=nM (σ:=s.σ) E.who (E.ri:Nat) 0 E.w;omega) _ _ _,fun _=>{ who:=hE.who,sh:=hE.sh,i:=hE.i,scan:=fun h=>(by rcases h with h|h|h<;>cases h),w:=hE.w,top:=hE.top,found:=hE.found,look:=fun h=>(by cases h),obj:=fun _=>hE.obj hr,rg:=fun _=>hE.rg hr,r:=hE.r,len:=hE.len },rfl,rfl,rfl⟩
  |false=>exact⟨hP.σ (hm.turn _ _ _ _) (by have:=nM (σ:=s.σ) E.who (E.ri:Nat) 0 E.w;omega),fun _=>{ who:=hE.who,sh:=hE.sh,i:=hE.i,scan:=fun h=>(by rcases h with h|h|h<;>cases h),w:=hE.w,top:=hE.top,found:=hE.found,look:=fun h=>(by cases h),obj:=fun _=>hE.obj hr,rg:=fun _=>hE.rg hr,r:=hE.r,len:=hE.len },rfl,rfl,rfl⟩
 |down=>
  rw[show aW s E A.sl now=⟨fQ s E (s.uC E.ri).cs.length (s.uC E.ri),{ E with st:=.shown },0,false⟩ by unfold aW;rw[hst]];have hr:E.st.ring=true:=by rw[hst];rfl
  obtain⟨i,hi⟩:=hE.rg hr;have hlt:=hE.r i hi;have hri:E.ri=i:=by unfold jQ.ri;rw[hi];rfl
  have hx:s.uC E.ri=s.ob[i]:=by rw[hri];exact PS.Iy (List.getElem?_eq_getElem hlt)
  have hc:=hP.cs _ (List.getElem_mem hlt);refine⟨hP.next (by show vw (s.ob.set _ _).length _;rw[List.length_set];exact hm.put _ _ _) (by show(s.σ.put _ _ _).log.length≤_;rw[aZ];omega) (by simp[fQ]) (by simp[fQ]) (fun y hy=>?_) (fun o=>by have:=hP.nx o;simpa [fQ]using this),fun _=>{ who:=hE.who,sh:=hE.sh,i:=hE.i,scan:=fun h=>(by rcases h with h|h|h<;>cases h),w:=hE.w,top:=(by simpa [fQ]using hE.top),found:=fun h=>(hE.found h).mono (by simp[fQ]),look:=fun h=>(by cases h),obj:=fun _=>(hE.obj hr).mono (by simp[fQ]),rg:=fun _=>hE.rg hr,r:=fun i h=>(by have:=hE.r i h;simpa [fQ]using this),len:=hE.len },by simp[fQ],rfl,rfl⟩
  rcases List.mem_or_eq_of_mem_set hy with h|h
  ·exact hP.cs y h
  ·subst h;rw[hx];refine⟨by rw[List.length_set];exact hc.1,by rw[List.length_set];exact hc.2.1,hc.2.2.1,hc.2.2.2.1,fun k hk=>?_⟩;rcases List.mem_or_eq_of_mem_set hk with h|h
   ·exact hc.2.2.2.2 k h
   ·subst h;exact hE.len
 |seq=>
  rw[show aW s E A.sl now=nX s E by unfold aW;rw[hst]];have hr:E.st.ring=true:=by rw[hst];rfl
  unfold nX
  cases hb:((s.σ.num gm).tmod 2==1)with
  |true=>exact⟨hP.σ (hm.put _ _ _) (by rw[aZ];omega),fun _=>{ who:=hE.who,sh:=hE.sh,i:=hE.i,scan:=fun h=>(by rcases h with h|h|h<;>cases h),w:=hE.w,top:=hE.top,found:=hE.found,look:=fun h=>(by cases h),obj:=fun _=>hE.obj hr,rg:=fun _=>hE.rg hr,r:=hE.r,len:=hE.len },rfl,rfl,rfl⟩
  |false=>exact⟨hP.σ (hm.put _ _ _) (by rw[aZ];omega),fun _=>{ who:=hE.who,sh:=hE.sh,i:=hE.i,scan:=fun h=>(by rcases h with h|h|h<;>cases h),w:=hE.w,top:=hE.top,found:=hE.found,look:=fun h=>(by cases h),obj:=fun _=>hE.obj hr,rg:=fun _=>hE.rg hr,r:=hE.r,len:=hE.len },rfl,rfl,rfl⟩
 |wordAgain=>
  rw[show aW s E A.sl now=fJ s E .headAgain by unfold aW;rw[hst]];have hr:E.st.ring=true:=by rw[hst];rfl
  unfold fJ
  cases hb:(wst (s.wd E)==2)with
  |true=>exact⟨hP.σ (hm.put _ _ _) (by rw[aZ];omega),fun _=>{ who:=hE.who,sh:=hE.sh,i:=hE.i,scan:=fun h=>(by rcases h with h|h|h<;>cases h),w:=hP.u _,top:=hE.top,found:=hE.found,look:=fun h=>(by cases h),obj:=fun h=>(by cases h),rg:=fun h=>(by cases h),r:=hE.r,len:=hE.len },rfl,rfl,rfl⟩
  |false=>exact⟨hP.σ (hm.put _ _ _) (by rw[aZ];omega),fun _=>{ who:=hE.who,sh:=hE.sh,i:=hE.i,scan:=fun h=>(by rcases h with h|h|h<;>cases h),w:=hP.u _,top:=hE.top,found:=hE.found,look:=fun h=>(by cases h),obj:=fun _=>hE.obj hr,rg:=fun _=>hE.rg hr,r:=hE.r,len:=hE.len },rfl,rfl,rfl⟩
 |headAgain=>
  rw[show aW s E A.sl now=dZ s E now by unfold aW;rw[hst]];have hr:E.st.ring=true:=by rw[hst];rfl
  unfold dZ
  cases hb:mM s E with
  |true=>exact⟨hP.σ (hm.put _ _ _) (by rw[aZ];omega),fun _=>{ who:=hE.who,sh:=hE.sh,i:=hE.i,scan:=fun h=>(by rcases h with h|h|h<;>cases h),w:=hE.w,top:=hE.top,found:=hE.found,look:=fun h=>(by cases h),obj:=fun _=>hE.obj hr,rg:=fun _=>hE.rg hr,r:=hE.r,len:=hE.len },rfl,rfl,rfl⟩
  |false=>exact⟨hP.σ (hm.put _ _ _) (by rw[aZ];omega),fun _=>{ who:=hE.who,sh:=hE.sh,i:=hE.i,scan:=fun h=>(by rcases h with h|h|h<;>cases h),w:=hE.w,top:=hE.top,found:=hE.found,look:=fun h=>(by cases h),obj:=fun _=>hE.obj hr,rg:=fun _=>hE.rg hr,r:=hE.r,len:=hE.len },rfl,rfl,rfl⟩
 |seqAgain=>
  rw[show aW s E A.sl now=fF s E by unfold aW;rw[hst]];have hr:E.st.ring=true:=by rw[hst];rfl
  unfold fF
  cases hb:(s.σ.num gm==E.q)with
  |true=>exact⟨hP.σn (hm.put _ _ _) (by rw[aZ];omega) _ _ _,fun h=>(by cases h),rfl,rfl,rfl⟩
  |false=>exact⟨hP.σ (hm.put _ _ _) (by rw[aZ];omega),fun _=>{ who:=hE.who,sh:=hE.sh,i:=hE.i,scan:=fun h=>(by rcases h with h|h|h<;>cases h),w:=hE.w,top:=hE.top,found:=hE.found,look:=fun h=>(by cases h),obj:=fun _=>hE.obj hr,rg:=fun _=>hE.rg hr,r:=hE.r,len:=hE.len },rfl,rfl,rfl⟩
 |back=>
  rw[show aW s E A.sl now=⟨{ s with σ:=(s.σ.put E.who 3 df).set df (IntKind.u64.wrap (s.σ.num df+1)) },{ E with st:=.word },0,false⟩ by unfold aW;rw[hst]];have hr:E.st.ring=true:=by rw[hst];rfl
  exact⟨hP.σ ((hm.put _ _ _).set' (dC.wrap _) (by simp) (by simp)) (by rw[gy,aZ];omega),fun _=>{ who:=hE.who,sh:=hE.sh,i:=hE.i,scan:=fun h=>(by rcases h with h|h|h<;>cases h),w:=hE.w,top:=hE.top,found:=hE.found,look:=fun h=>(by cases h),obj:=fun _=>hE.obj hr,rg:=fun _=>hE.rg hr,r:=hE.r,len:=hE.len },rfl,rfl,rfl⟩
 |shown=>
  rw[show aW s E A.sl now=⟨jq s E (s.uC E.ri).cs.length,{ E with st:=.topmost },0,false⟩ by unfold aW;rw[hst]];have hr:E.st.ring=true:=by rw[hst];rfl
  exact⟨hP.σ ((hm.put _ _ _).set' (dC.wrap _) (by simp) (by simp)) (by rw[gy,aZ];omega),fun _=>{ who:=hE.who,sh:=hE.sh,i:=hE.i,scan:=fun h=>(by rcases h with h|h|h<;>cases h),w:=hE.w,top:=hE.top,found:=hE.found,look:=fun h=>(by cases h),obj:=fun _=>hE.obj hr,rg:=fun _=>hE.rg hr,r:=hE.r,len:=hE.len },rfl,rfl,rfl⟩
 |topmost=>
  rw[show aW s E A.sl now=⟨{ s with σ:=s.σ.put E.who 1 (fB E.shard) },{ E with top:=s.σ.num (fB E.shard),st:=.link },0,false⟩ by unfold aW;rw[hst]];have hr:E.st.ring=true:=by rw[hst];rfl
  exact⟨hP.σ (hm.put _ _ _) (by rw[aZ];omega),fun _=>{ who:=hE.who,sh:=hE.sh,i:=hE.i,scan:=fun h=>(by rcases h with h|h|h<;>cases h),w:=hE.w,top:=⟨(hP.u _).1,hP.inb _⟩,found:=hE.found,look:=fun h=>(by cases h),obj:=fun _=>hE.obj hr,rg:=fun _=>hE.rg hr,r:=hE.r,len:=hE.len },rfl,rfl,rfl⟩
 |link=>
  rw[show aW s E A.sl now=⟨{ s with σ:=s.σ.put E.who 6 (tN E.obj),nx:=nG s.nx E.obj E.top },{ E with st:=.push },0,false⟩ by unfold aW;rw[hst]];have hr:E.st.ring=true:=by rw[hst];rfl
  refine⟨hP.next (hm.put _ _ _) (by show(s.σ.put _ _ _).log.length≤_;rw[aZ];omega) (by simp) (by simp) hP.cs (fun o=>?_),fun _=>{ who:=hE.who,sh:=hE.sh,i:=hE.i,scan:=fun h=>(by rcases h with h|h|h<;>cases h),w:=hE.w,top:=hE.top,found:=hE.found,look:=fun h=>(by cases h),obj:=fun _=>hE.obj hr,rg:=fun _=>hE.rg hr,r:=hE.r,len:=hE.len },rfl,rfl,rfl⟩
  show 0≤nG s.nx E.obj E.top o∧nG s.nx E.obj E.top o≤s.ob.length
  unfold nG
  split
  ·exact hE.top
  ·exact hP.nx o
 |push=>
  rw[show aW s E A.sl now=kW s E by unfold aW;rw[hst]];have hr:E.st.ring=true:=by rw[hst];rfl
  unfold kW
  cases hb:decide (s.σ.num (fB E.shard)=E.top)with
  |true=>exact⟨hP.σ (hm.swap _ _ (Je _) (fun e=>by simp at e) (fun _=>by rw[Lj (hE.obj hr) hoN];have:=(hE.obj hr).2;omega)) (by rw[iy];omega),fun _=>{ who:=hE.who,sh:=hE.sh,i:=hE.i,scan:=fun h=>(by rcases h with h|h|h<;>cases h),w:=hE.w,top:=hE.top,found:=hE.found,look:=fun h=>(by cases h),obj:=fun _=>hE.obj hr,rg:=fun _=>hE.rg hr,r:=hE.r,len:=hE.len },rfl,rfl,rfl⟩
  |false=>exact⟨hP.σ (hm.swap _ _ (Je _) (fun e=>by simp at e) (fun _=>by rw[Lj (hE.obj hr) hoN];have:=(hE.obj hr).2;omega)) (by rw[iy];omega),fun _=>{ who:=hE.who,sh:=hE.sh,i:=hE.i,scan:=fun h=>(by rcases h with h|h|h<;>cases h),w:=hE.w,top:=hE.top,found:=hE.found,look:=fun h=>(by cases h),obj:=fun _=>hE.obj hr,rg:=fun _=>hE.rg hr,r:=hE.r,len:=hE.len },rfl,rfl,rfl⟩
 |end'=>
  rw[show aW s E A.sl now=⟨{ s with σ:=(s.σ.put E.who 3 df).set df (IntKind.u64.wrap (s.σ.num df+1)) },E,0,true⟩ by unfold aW;rw[hst]]
  exact⟨hP.σ ((hm.put _ _ _).set' (dC.wrap _) (by simp) (by simp)) (by rw[gy,aZ];omega),fun h=>(by cases h),rfl,rfl,rfl⟩
end
end Go.Proofs.YtjnbbmgbmiggbaaGreatDoor
