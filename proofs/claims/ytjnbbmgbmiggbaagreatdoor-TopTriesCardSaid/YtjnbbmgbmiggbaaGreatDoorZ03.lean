/- Lemmas for TopTries' card: packages table, inbox, word and ring do to what lies in memory what is said here. -/
import Derived.Laws.BitsAllLaws
import Derived.Test.YtjnbbmgbmiggbaaGreatDoorZ02
set_option linter.unusedSimpArgs false
set_option linter.unusedVariables false
set_option maxRecDepth 20000
set_option maxHeartbeats 4000000
namespace Go.Proofs.YtjnbbmgbmiggbaaGreatDoor
open Go Go.RowKit Go.Maps Go.Proofs.Tryz
@[reducible] def Dj (p m:Nat) (sh sl:Int) (σ:MS):HA:=aG [bF m σ,box p [ptr m,J sh,J sl] 126]
@[reducible] def ja (s:Int):Lc:=⟨8,s,0⟩
@[reducible] def slotL (s i:Int):Lc:=⟨10,s,i⟩
theorem KN {s:Int} (h:I64 s):(ja s).wf:=⟨(show I64 8 by unfold I64;omega),h,(show I64 0 by unfold I64;omega)⟩
theorem uZ {s i:Int} (h:I64 s) (hi:I64 i):(slotL s i).wf:=⟨(show I64 10 by unfold I64;omega),h,hi⟩
theorem yF (s:Int):Pure prog 169 #[J s] (ja s).val:=fun w=>by
 go_enter func169,ntmps169
 go_wp2
 exact bodyPost_ret (results_cell_row rfl _ _ w.heap.size 40 #[J 8,J s,J 0] (0,0) _ rfl (Row.new w [J 8,J s,J 0] 40) underlying40 rfl (by kernel_rfl)) rfl ⟨rfl,(dE.refl _ _).alloc _⟩
theorem rE (s i:Int):Pure prog 185 #[J s,J i] (slotL s i).val:=fun w=>by
 go_enter func185,ntmps185
 go_wp2
 exact bodyPost_ret (results_cell_row rfl _ _ w.heap.size 40 #[J 10,J s,J i] (0,0) _ rfl (Row.new w [J 10,J s,J i] 40) underlying40 rfl (by kernel_rfl)) rfl ⟨rfl,(dE.refl _ _).alloc _⟩
def uO (v:Int):Int:=if v=0 then 0 else v / 4294967296 - 1
def dL (v:Int):Int:=if v=0 then 0 else v % 4294967296
def jI (v:Int):Bool:=decide (v≠0)
def uM (v:Int):Value:=.tuple #[J (uO v),J (dL v),.bool (jI v)]
theorem PX {v:Int} (h:v=0):uM v=.tuple #[J 0,J 0,.bool false]:=by subst h;rfl
theorem Oe {v:Int} (h:v≠0):uM v=.tuple #[J (v / 4294967296 - 1),J (v % 4294967296),.bool true]:=by simp[uM,uO,dL,jI,h]
theorem OW {v:Int} (h:dC v):Go.bits .and .u64 v 4294967295=v % 4294967296:=by
 obtain⟨h0,h1⟩:=h;rw[u64_and _ _ (by omega) (by omega) (by omega) (by omega)]
 have:(4294967295:Int).toNat=2 ^ 32 - 1:=by decide
 rw[this,Nat.and_two_pow_sub_one_eq_mod]
 omega
def uJ (flow obj:Int):Int:=(flow+1)*4294967296+obj
def yN (flow obj:Int):Bool:=decide (0≤flow∧flow≤1048576∧0≤obj∧obj<4294967296)
theorem KZ {flow obj:Int} (h0:0≤flow) (h1:flow≤1048576) (h2:0≤obj) (h3:obj<4294967296):dC (uJ flow obj):=by unfold uJ dC;omega
theorem RU {flow obj:Int} (h0:0≤flow) (h1:flow≤1048576) (h2:0≤obj) (h3:obj<4294967296):Go.bits .or .u64 ((flow+1)*4294967296) obj=uJ flow obj:=by
 rw[u64_or _ _ (by omega) (by omega) (by omega) (by omega),nat_join 32 _ _ (by omega) (by omega)];unfold uJ
 omega
section
variable {p q m x n:Nat} {sh sl:Int} {σ:MS}
set_option maxHeartbeats 1000000 in
theorem JA (who s:Int) (hs:I64 s) (hl:σ.log.length≤1000000):
  Does prog [aG [bF m σ,box p [ptr m,J sh,J sl] 126]] 137 #[ptr p,J who,J s] (.bool (decide (σ.num (ja s)=0))) [aG [bF m (σ.swap who (ja s) 0 1),box p [ptr m,J sh,J sl] 126]]:=Does.pack fun S w0 w h=>by
 have c0:w.cell? ⟨p,0,none⟩=some (ptr m):=(h.row 1 rfl).cell rfl;have H0:=zd h;clear h;have hw:=KN hs;have Hw:=zd hw;clear hw
 go_enter func137,ntmps137
 go_wp2_with fail
 go_region_held3 (fun w'=>w'.cell? ⟨p,0,none⟩=some (ptr m))
  (go_keep)
  (first
   |(go_at_call 169
     refine((yF s).at H0.out.drew).mono ?_
     rintro e w1 ⟨rfl,s1⟩
     have g1:w1.cell? ⟨p,0,none⟩=some (ptr m):=(s1.row 1 rfl).cell rfl;have H1:=zd s1
     clear s1)
   |(go_at_call 168
     refine((mY who (ja s) Hw.out 0 1 (by unfold dC;omega) hl).at0 H1.out).mono ?_
     rintro e wz ⟨rfl,sz⟩
     have gz:wz.cell? ⟨p,0,none⟩=some (ptr m):=(sz.row 1 rfl).cell rfl;have Hz:=zd sz
     clear sz))
 go_wp2
 go_ret
 exact Ends.mk [] (by simpa using Hz.out)
set_option maxHeartbeats 1000000 in
theorem CV (who s:Int) (hs:I64 s) (hl:σ.log.length≤1000000):
  Does prog [aG [bF m σ,box p [ptr m,J sh,J sl] 126]] 197 #[ptr p,J who,J s] (.tuple #[]) [aG [bF m ((σ.put who 2 (ja s)).set (ja s) 0),box p [ptr m,J sh,J sl] 126]]:=Does.pack fun S w0 w h=>by
 have c0:w.cell? ⟨p,0,none⟩=some (ptr m):=(h.row 1 rfl).cell rfl;have H0:=zd h;clear h;have hw:=KN hs;have Hw:=zd hw;clear hw
 go_enter func197,ntmps197
 go_wp2_with fail
 go_region_held3 (fun w'=>w'.cell? ⟨p,0,none⟩=some (ptr m))
  (go_keep)
  (first
   |(go_at_call 169
     refine((yF s).at H0.out.drew).mono ?_
     rintro e w1 ⟨rfl,s1⟩
     have g1:w1.cell? ⟨p,0,none⟩=some (ptr m):=(s1.row 1 rfl).cell rfl;have H1:=zd s1
     clear s1)
   |(go_at_call 175
     refine((jA who (ja s) Hw.out 0 (by unfold dC;omega) hl).at0 H1.out).mono ?_
     rintro e wz ⟨rfl,sz⟩
     have gz:wz.cell? ⟨p,0,none⟩=some (ptr m):=(sz.row 1 rfl).cell rfl;have Hz:=zd sz
     clear sz))
 go_wp2
 go_end0
 exact Ends.mk [] (by simpa using Hz.out)
set_option maxHeartbeats 1000000 in
theorem D8 (who s i:Int) (hs:I64 s) (hi:I64 i) (hl:σ.log.length≤1000000):
  Does prog [aG [bF m σ,box p [ptr m,J sh,J sl] 126]] 235 #[ptr p,J who,J s,J i] (.tuple #[]) [aG [bF m ((σ.put who 2 (slotL s i)).set (slotL s i) 0),box p [ptr m,J sh,J sl] 126]]:=Does.pack fun S w0 w h=>by
 have c0:w.cell? ⟨p,0,none⟩=some (ptr m):=(h.row 1 rfl).cell rfl;have H0:=zd h;clear h;have hw:=uZ hs hi;have Hw:=zd hw;clear hw
 go_enter func235,ntmps235
 go_wp2_with fail
 go_region_held3 (fun w'=>w'.cell? ⟨p,0,none⟩=some (ptr m))
  (go_keep)
  (first
   |(go_at_call 185
     refine((rE s i).at H0.out.drew).mono ?_
     rintro e w1 ⟨rfl,s1⟩
     have g1:w1.cell? ⟨p,0,none⟩=some (ptr m):=(s1.row 1 rfl).cell rfl;have H1:=zd s1
     clear s1)
   |(go_at_call 175
     refine((jA who (slotL s i) Hw.out 0 (by unfold dC;omega) hl).at0 H1.out).mono ?_
     rintro e wz ⟨rfl,sz⟩
     have gz:wz.cell? ⟨p,0,none⟩=some (ptr m):=(sz.row 1 rfl).cell rfl;have Hz:=zd sz
     clear sz))
 go_wp2
 go_end0
 exact Ends.mk [] (by simpa using Hz.out)
set_option maxHeartbeats 1000000 in
theorem Ro (who s i flow obj:Int) (hs:I64 s) (hi:I64 i) (hl:σ.log.length≤1000000) (h0:0≤flow) (h1:flow≤1048576) (h2:0≤obj) (h3:obj<4294967296):
  Does prog [aG [bF m σ,box p [ptr m,J sh,J sl] 126]] 217 #[ptr p,J who,J s,J i,J flow,J obj] (.bool true) [aG [bF m ((σ.put who 2 (slotL s i)).set (slotL s i) (uJ flow obj)),box p [ptr m,J sh,J sl] 126]]:=Does.pack fun S w0 w h=>by
 have c0:w.cell? ⟨p,0,none⟩=some (ptr m):=(h.row 1 rfl).cell rfl;have H0:=zd h;clear h;have hw:=uZ hs hi;have Hw:=zd hw;clear hw;have hu:=KZ h0 h1 h2 h3;have Hu:=zd hu;have e1:IntKind.i64.wrap (flow+1)=flow+1:=by rw[IntKind.wrap_i64];omega
 have e2:IntKind.u64.wrap (flow+1)=flow+1:=by rw[IntKind.wrap_u64];omega
 have e3:IntKind.u64.wrap ((flow+1)*4294967296)=(flow+1)*4294967296:=by rw[IntKind.wrap_u64];omega
 have e4:IntKind.u64.wrap obj=obj:=by rw[IntKind.wrap_u64];omega
 clear hu;have e5:=RU h0 h1 h2 h3
 go_enter func217,ntmps217
 go_wp2_with fail
 go_region_held3 (fun w'=>w'.cell? ⟨p,0,none⟩=some (ptr m))
  (go_keep)
  (first
   |(go_at_call 185
     refine((rE s i).at H0.out.drew).mono ?_
     rintro e w1 ⟨rfl,s1⟩
     have g1:w1.cell? ⟨p,0,none⟩=some (ptr m):=(s1.row 1 rfl).cell rfl;have H1:=zd s1
     clear s1)
   |(go_at_call 175
     refine((jA who (slotL s i) Hw.out (uJ flow obj) Hu.out hl).at0 H1.out).mono ?_
     rintro e wz ⟨rfl,sz⟩
     have gz:wz.cell? ⟨p,0,none⟩=some (ptr m):=(sz.row 1 rfl).cell rfl;have Hz:=zd sz
     clear sz))
 go_wp2
 go_ret
 exact Ends.mk [] (by simpa using Hz.out)
set_option maxHeartbeats 1000000 in
theorem RJ (who s i flow obj:Int) (ho:I64 obj) (hb:yN flow obj=false):Does prog [aG [bF m σ,box p [ptr m,J sh,J sl] 126]] 217 #[ptr p,J who,J s,J i,J flow,J obj] (.bool false) [aG [bF m σ,box p [ptr m,J sh,J sl] 126]]:=Does.pack fun S w0 w h=>by
 have H0:=zd h;clear h;have hb:=of_decide_eq_false hb
 by_cases a:flow<0
 ·clear hb
  clear ho
  go_enter func217,ntmps217
  go_wp2
  go_ret
  exact Ends.mk [] (by simpa using H0.out)
 by_cases b:1048576<flow
 ·clear hb
  clear ho
  go_enter func217,ntmps217
  go_wp2
  go_ret
  exact Ends.mk [] (by simpa using H0.out)
 by_cases c:obj<0
 ·clear hb
  clear ho
  go_enter func217,ntmps217
  go_wp2
  go_ret
  exact Ends.mk [] (by simpa using H0.out)
 ·have d:4294967296≤obj:=by omega
  clear hb;clear ho
  go_enter func217,ntmps217
  go_wp2
  go_ret
  exact Ends.mk [] (by simpa using H0.out)
set_option maxHeartbeats 1000000 in
theorem QW (who s i:Int) (hs:I64 s) (hi:I64 i) (hl:σ.log.length≤1000000) (hu:dC (σ.num (slotL s i))) (hz:σ.num (slotL s i)=0):
  Does prog [aG [bF m σ,box p [ptr m,J sh,J sl] 126]] 162 #[ptr p,J who,J s,J i] (uM (σ.num (slotL s i))) [aG [bF m (σ.put who 1 (slotL s i)),box p [ptr m,J sh,J sl] 126]]:=Does.pack fun S w0 w h=>by
 have c0:w.cell? ⟨p,0,none⟩=some (ptr m):=(h.row 1 rfl).cell rfl;have H0:=zd h;clear h;have hw:=uZ hs hi;have Hw:=zd hw;clear hw;rw[PX hz];have Hz':=zd hz;clear hz hu
 go_enter func162,ntmps162
 go_wp2_with fail
 go_region_held3 (fun w'=>w'.cell? ⟨p,0,none⟩=some (ptr m))
  (go_keep)
  (first
   |(go_at_call 185
     refine((rE s i).at H0.out.drew).mono ?_
     rintro e w1 ⟨rfl,s1⟩
     have g1:w1.cell? ⟨p,0,none⟩=some (ptr m):=(s1.row 1 rfl).cell rfl;have H1:=zd s1
     clear s1)
   |(go_at_call 184
     refine((jP who (slotL s i) Hw.out hl).at0 H1.out).mono ?_
     rintro e wz ⟨rfl,sz⟩
     have gz:wz.cell? ⟨p,0,none⟩=some (ptr m):=(sz.row 1 rfl).cell rfl;have Hz:=zd sz
     clear sz))
 have hz':=Hz'.out
 go_wp2
 go_ret3
 exact Ends.mk [] (by simpa using Hz.out)
set_option maxHeartbeats 1000000 in
theorem Nc (who s i:Int) (hs:I64 s) (hi:I64 i) (hl:σ.log.length≤1000000) (hu:dC (σ.num (slotL s i))) (hz:σ.num (slotL s i)≠0):
  Does prog [aG [bF m σ,box p [ptr m,J sh,J sl] 126]] 162 #[ptr p,J who,J s,J i] (uM (σ.num (slotL s i))) [aG [bF m (σ.put who 1 (slotL s i)),box p [ptr m,J sh,J sl] 126]]:=Does.pack fun S w0 w h=>by
 have c0:w.cell? ⟨p,0,none⟩=some (ptr m):=(h.row 1 rfl).cell rfl;have H0:=zd h;clear h;have hw:=uZ hs hi;have Hw:=zd hw;clear hw;rw[Oe hz];have hz':(σ.num (slotL s i)==0)=false:=by simpa using hz
 have b1:0≤σ.num (slotL s i):=hu.1;have b2:σ.num (slotL s i)≤18446744073709551615:=hu.2;have b3:=OW hu;have Hz':=zd hz';have B1:=zd b1;have B2:=zd b2;have B3:=zd b3;clear hz hu hz' b1 b2 b3
 go_enter func162,ntmps162
 go_wp2_with fail
 go_region_held3 (fun w'=>w'.cell? ⟨p,0,none⟩=some (ptr m))
  (go_keep)
  (first
   |(go_at_call 185
     refine((rE s i).at H0.out.drew).mono ?_
     rintro e w1 ⟨rfl,s1⟩
     have g1:w1.cell? ⟨p,0,none⟩=some (ptr m):=(s1.row 1 rfl).cell rfl;have H1:=zd s1
     clear s1)
   |(go_at_call 184
     refine((jP who (slotL s i) Hw.out hl).at0 H1.out).mono ?_
     rintro e wz ⟨rfl,sz⟩
     have gz:wz.cell? ⟨p,0,none⟩=some (ptr m):=(sz.row 1 rfl).cell rfl;have Hz:=zd sz
     clear sz))
 have hz':=Hz'.out;have b1:=B1.out;have b2:=B2.out;have b3:=B3.out
 go_wp2
 go_ret3
 exact Ends.mk [] (by simpa using Hz.out)
def MS.uf (σ:MS) (who s i flow obj:Int):MS:=if yN flow obj=true then(σ.put who 2 (slotL s i)).set (slotL s i) (uJ flow obj)else σ
theorem LQ (who s i flow obj:Int) (hs:I64 s) (hi:I64 i) (ho:I64 obj) (hl:σ.log.length≤1000000):
  Does prog [Dj p m sh sl σ] 217 #[ptr p,J who,J s,J i,J flow,J obj] (.bool (yN flow obj)) [Dj p m sh sl (σ.uf who s i flow obj)]:=by
 unfold MS.uf
 by_cases hb:yN flow obj=true
 ·rw[if_pos hb,hb]
  obtain⟨h0,h1,h2,h3⟩:=of_decide_eq_true hb
  exact Ro who s i flow obj hs hi hl h0 h1 h2 h3
 ·rw[if_neg hb,Bool.eq_false_iff.2 hb]
  exact RJ who s i flow obj ho (Bool.eq_false_iff.2 hb)
theorem IJ (who s i:Int) (hs:I64 s) (hi:I64 i) (hl:σ.log.length≤1000000) (hu:dC (σ.num (slotL s i))):
  Does prog [Dj p m sh sl σ] 162 #[ptr p,J who,J s,J i] (uM (σ.num (slotL s i))) [Dj p m sh sl (σ.put who 1 (slotL s i))]:=by
 by_cases hz:σ.num (slotL s i)=0
 ·exact QW who s i hs hi hl hu hz
 ·exact Nc who s i hs hi hl hu hz
end
def numN:Option Value→Int
 |some (.int _ a)=>a
 |_=>0
def dG (b:Nat) (nx:Int→Int):HA where
 holds w fp:=(∃ n f,dD prog 3 w b n f∧(∀ x y,f x=some y→∃ a,y=Ju a)∧∀ o,I64 o→numN (f (J o))=nx o)∧fp=[b]
 lt:=by rintro w fp ⟨⟨n,f,h,_⟩,rfl⟩ k hk;simp at hk;subst hk;exact h.lt
 iZ:=by rintro w w' S fp ⟨⟨n,f,h,h2⟩,rfl⟩ c hn;exact⟨⟨n,f,h.iZ c (hn _ (by simp)),h2⟩,rfl⟩
@[reducible] def inA (p m b:Nat) (sh:Int) (σ:MS) (nx:Int→Int):HA:=aG [bF m (σ),box p [ptr m,J sh,.map (some b),.func (.func 44) #[J 9] #[],.func (.func 44) #[J 14] #[]] 124,dG b nx]
@[reducible] def df:Lc:=⟨3,0,0⟩
@[reducible] def fB (s:Int):Lc:=⟨9,s,0⟩
@[reducible] def tN (s:Int):Lc:=⟨14,s,0⟩
theorem BK:df.wf:=⟨(show I64 3 by unfold I64;omega),(show I64 0 by unfold I64;omega),(show I64 0 by unfold I64;omega)⟩
theorem Bj {s:Int} (h:I64 s):(fB s).wf:=⟨(show I64 9 by unfold I64;omega),h,(show I64 0 by unfold I64;omega)⟩
theorem kU (k a:Int):Pure prog 44 #[J k,J a] (⟨k,a,0⟩:Lc).val:=fun w=>by
 go_enter func44,ntmps44
 go_wp2
 exact bodyPost_ret (results_cell_row rfl _ _ w.heap.size 40 #[J k,J a,J 0] (0,0) _ rfl (Row.new w [J k,J a,J 0] 40) underlying40 rfl (by kernel_rfl)) rfl ⟨rfl,(dE.refl _ _).alloc _⟩
def CO (o:Int):Int:=IntKind.u64.wrap (IntKind.u64.wrap o+1)
theorem Je (o:Int):dC (CO o):=by unfold CO dC;rw[IntKind.wrap_u64];omega
section
variable {p m b q x n kb:Nat} {sh:Int} {σ:MS} {nx:Int→Int} {vK vV:Value} {kv:List (Int×Int)}
set_option maxHeartbeats 1000000 in
theorem LX (who:Int) (hl:σ.log.length≤1000000):
  Does prog [aG [bF m (σ),box p [ptr m,J sh,.map (some b),.func (.func 44) #[J 9] #[],.func (.func 44) #[J 14] #[]] 124,dG b nx]] 257 #[ptr p,J who] (Ju (σ.num df)) [aG [bF m (σ.put who 1 df),box p [ptr m,J sh,.map (some b),.func (.func 44) #[J 9] #[],.func (.func 44) #[J 14] #[]] 124,dG b nx]]:=Does.pack fun S w0 w h=>by
 have c0:w.cell? ⟨p,0,none⟩=some (ptr m):=(h.row 1 rfl).cell rfl;have H0:=zd h.drew;have H00:=zd h;clear h
 go_enter func257,ntmps257
 go_wp2_with fail
 go_region_held3 (fun w'=>w'.cell? ⟨p,0,none⟩=some (ptr m)) (go_keep)
  (first
   |(go_at_call 44
     refine((kU 3 0).at (Hid.out (by assumption))).mono ?_
     rintro e wq ⟨rfl,sq⟩
     have g0:wq.cell? ⟨p,0,none⟩=some (ptr m):=(sq.row 1 rfl).cell rfl;have Hq:=zd sq
     clear sq)
   |(go_at_call 184
     refine((jP who df BK hl).at0 (Hid.out (by assumption))).mono ?_
     rintro e wz ⟨rfl,sz⟩
     have g0:wz.cell? ⟨p,0,none⟩=some (ptr m):=(sz.row 1 rfl).cell rfl;have Hz:=zd sz
     clear sz))
 go_wp2
 go_ret
 exact Ends.mk [] (by simpa using Hz.out)
set_option maxHeartbeats 1000000 in
theorem Ed (who:Int) (hl:σ.log.length≤1000000):
  Does prog [aG [bF m (σ),box p [ptr m,J sh,.map (some b),.func (.func 44) #[J 9] #[],.func (.func 44) #[J 14] #[]] 124,dG b nx]] 231 #[ptr p,J who] (.tuple #[]) [aG [bF m ((σ.put who 3 df).set df (IntKind.u64.wrap (σ.num df+4294967296))),box p [ptr m,J sh,.map (some b),.func (.func 44) #[J 9] #[],.func (.func 44) #[J 14] #[]] 124,dG b nx]]:=Does.pack fun S w0 w h=>by
 have c0:w.cell? ⟨p,0,none⟩=some (ptr m):=(h.row 1 rfl).cell rfl;have H0:=zd h.drew;have H00:=zd h;clear h
 go_enter func231,ntmps231
 go_wp2_with fail
 go_region_held3 (fun w'=>w'.cell? ⟨p,0,none⟩=some (ptr m)) (go_keep)
  (first
   |(go_at_call 44
     refine((kU 3 0).at (Hid.out (by assumption))).mono ?_
     rintro e wq ⟨rfl,sq⟩
     have g0:wq.cell? ⟨p,0,none⟩=some (ptr m):=(sq.row 1 rfl).cell rfl;have Hq:=zd sq
     clear sq)
   |(go_at_call 252
     refine((yL who df BK 4294967296 (by unfold dC;omega) hl).at0 (Hid.out (by assumption))).mono ?_
     rintro e wz ⟨rfl,sz⟩
     have g0:wz.cell? ⟨p,0,none⟩=some (ptr m):=(sz.row 1 rfl).cell rfl;have Hz:=zd sz
     clear sz))
 go_wp2
 go_end0
 exact Ends.mk [] (by simpa using Hz.out)
set_option maxHeartbeats 1000000 in
theorem Oz (who:Int) (hl:σ.log.length≤1000000):
  Does prog [aG [bF m (σ),box p [ptr m,J sh,.map (some b),.func (.func 44) #[J 9] #[],.func (.func 44) #[J 14] #[]] 124,dG b nx]] 263 #[ptr p,J who] (.tuple #[]) [aG [bF m ((σ.put who 3 df).set df (IntKind.u64.wrap (σ.num df+1))),box p [ptr m,J sh,.map (some b),.func (.func 44) #[J 9] #[],.func (.func 44) #[J 14] #[]] 124,dG b nx]]:=Does.pack fun S w0 w h=>by
 have c0:w.cell? ⟨p,0,none⟩=some (ptr m):=(h.row 1 rfl).cell rfl;have H0:=zd h.drew;have H00:=zd h;clear h
 go_enter func263,ntmps263
 go_wp2_with fail
 go_region_held3 (fun w'=>w'.cell? ⟨p,0,none⟩=some (ptr m)) (go_keep)
  (first
   |(go_at_call 44
     refine((kU 3 0).at (Hid.out (by assumption))).mono ?_
     rintro e wq ⟨rfl,sq⟩
     have g0:wq.cell? ⟨p,0,none⟩=some (ptr m):=(sq.row 1 rfl).cell rfl;have Hq:=zd sq
     clear sq)
   |(go_at_call 252
     refine((yL who df BK 1 (by unfold dC;omega) hl).at0 (Hid.out (by assumption))).mono ?_
     rintro e wz ⟨rfl,sz⟩
     have g0:wz.cell? ⟨p,0,none⟩=some (ptr m):=(sz.row 1 rfl).cell rfl;have Hz:=zd sz
     clear sz))
 go_wp2
 go_end0
 exact Ends.mk [] (by simpa using Hz.out)
set_option maxHeartbeats 1000000 in
theorem Nh (who s:Int) (hs:I64 s) (hl:σ.log.length≤1000000):
  Does prog [aG [bF m (σ),box p [ptr m,J sh,.map (some b),.func (.func 44) #[J 9] #[],.func (.func 44) #[J 14] #[]] 124,dG b nx]] 275 #[ptr p,J who,J s] (Ju (σ.num (fB s))) [aG [bF m (σ.put who 1 (fB s)),box p [ptr m,J sh,.map (some b),.func (.func 44) #[J 9] #[],.func (.func 44) #[J 14] #[]] 124,dG b nx]]:=Does.pack fun S w0 w h=>by
 have c0:w.cell? ⟨p,0,none⟩=some (ptr m):=(h.row 1 rfl).cell rfl;have c1:w.cell? ⟨p,3,none⟩=some (.func (.func 44) #[J 9] #[]):=(h.row 1 rfl).cell rfl;have H0:=zd h.drew;have H00:=zd h;clear h;have hw:=Bj hs;have Hw:=zd hw;clear hw
 go_enter func275,ntmps275
 go_wp2_with fail
 go_region_held3 (fun w'=>w'.cell? ⟨p,0,none⟩=some (ptr m)∧w'.cell? ⟨p,3,none⟩=some (.func (.func 44) #[J 9] #[])) (go_keep)
  (first
   |(go_at_call 44
     refine((kU 9 s).at (Hid.out (by assumption))).mono ?_
     rintro e wq ⟨rfl,sq⟩
     have g0:wq.cell? ⟨p,0,none⟩=some (ptr m):=(sq.row 1 rfl).cell rfl;have g1:wq.cell? ⟨p,3,none⟩=some (.func (.func 44) #[J 9] #[]):=(sq.row 1 rfl).cell rfl;have Hq:=zd sq
     clear sq)
   |(go_at_call 184
     refine((jP who (fB s) Hw.out hl).at0 (Hid.out (by assumption))).mono ?_
     rintro e wz ⟨rfl,sz⟩
     have g0:wz.cell? ⟨p,0,none⟩=some (ptr m):=(sz.row 1 rfl).cell rfl;have g1:wz.cell? ⟨p,3,none⟩=some (.func (.func 44) #[J 9] #[]):=(sz.row 1 rfl).cell rfl;have Hz:=zd sz
     clear sz))
 go_wp2
 go_ret
 exact Ends.mk [] (by simpa using Hz.out)
set_option maxHeartbeats 1000000 in
theorem IB (who s:Int) (hs:I64 s) (hl:σ.log.length≤1000000):
  Does prog [aG [bF m (σ),box p [ptr m,J sh,.map (some b),.func (.func 44) #[J 9] #[],.func (.func 44) #[J 14] #[]] 124,dG b nx]] 265 #[ptr p,J who,J s] (Ju (σ.num (fB s))) [aG [bF m ((σ.put who 3 (fB s)).set (fB s) 0),box p [ptr m,J sh,.map (some b),.func (.func 44) #[J 9] #[],.func (.func 44) #[J 14] #[]] 124,dG b nx]]:=Does.pack fun S w0 w h=>by
 have c0:w.cell? ⟨p,0,none⟩=some (ptr m):=(h.row 1 rfl).cell rfl;have c1:w.cell? ⟨p,3,none⟩=some (.func (.func 44) #[J 9] #[]):=(h.row 1 rfl).cell rfl;have H0:=zd h.drew;have H00:=zd h;clear h;have hw:=Bj hs;have Hw:=zd hw;clear hw
 go_enter func265,ntmps265
 go_wp2_with fail
 go_region_held3 (fun w'=>w'.cell? ⟨p,0,none⟩=some (ptr m)∧w'.cell? ⟨p,3,none⟩=some (.func (.func 44) #[J 9] #[])) (go_keep)
  (first
   |(go_at_call 44
     refine((kU 9 s).at (Hid.out (by assumption))).mono ?_
     rintro e wq ⟨rfl,sq⟩
     have g0:wq.cell? ⟨p,0,none⟩=some (ptr m):=(sq.row 1 rfl).cell rfl;have g1:wq.cell? ⟨p,3,none⟩=some (.func (.func 44) #[J 9] #[]):=(sq.row 1 rfl).cell rfl;have Hq:=zd sq
     clear sq)
   |(go_at_call 270
     refine((NL who (fB s) Hw.out 0 (by unfold dC;omega) hl).at0 (Hid.out (by assumption))).mono ?_
     rintro e wz ⟨rfl,sz⟩
     have g0:wz.cell? ⟨p,0,none⟩=some (ptr m):=(sz.row 1 rfl).cell rfl;have g1:wz.cell? ⟨p,3,none⟩=some (.func (.func 44) #[J 9] #[]):=(sz.row 1 rfl).cell rfl;have Hz:=zd sz
     clear sz))
 go_wp2
 go_ret
 exact Ends.mk [] (by simpa using Hz.out)
set_option maxHeartbeats 1000000 in
theorem JS (who s top obj:Int) (hs:I64 s) (hl:σ.log.length≤1000000):
  Does prog [aG [bF m (σ),box p [ptr m,J sh,.map (some b),.func (.func 44) #[J 9] #[],.func (.func 44) #[J 14] #[]] 124,dG b nx]] 285 #[ptr p,J who,J s,Ju top,J obj] (.bool (decide (σ.num (fB s)=top))) [aG [bF m (σ.swap who (fB s) top (CO obj)),box p [ptr m,J sh,.map (some b),.func (.func 44) #[J 9] #[],.func (.func 44) #[J 14] #[]] 124,dG b nx]]:=Does.pack fun S w0 w h=>by
 have c0:w.cell? ⟨p,0,none⟩=some (ptr m):=(h.row 1 rfl).cell rfl;have c1:w.cell? ⟨p,3,none⟩=some (.func (.func 44) #[J 9] #[]):=(h.row 1 rfl).cell rfl;have H0:=zd h.drew;have H00:=zd h;clear h;have hw:=Bj hs;have Hw:=zd hw;clear hw
 go_enter func285,ntmps285
 go_wp2_with fail
 go_region_held3 (fun w'=>w'.cell? ⟨p,0,none⟩=some (ptr m)∧w'.cell? ⟨p,3,none⟩=some (.func (.func 44) #[J 9] #[])) (go_keep)
  (first
   |(go_at_call 44
     refine((kU 9 s).at (Hid.out (by assumption))).mono ?_
     rintro e wq ⟨rfl,sq⟩
     have g0:wq.cell? ⟨p,0,none⟩=some (ptr m):=(sq.row 1 rfl).cell rfl;have g1:wq.cell? ⟨p,3,none⟩=some (.func (.func 44) #[J 9] #[]):=(sq.row 1 rfl).cell rfl;have Hq:=zd sq
     clear sq)
   |(go_at_call 168
     refine((mY who (fB s) Hw.out top (CO obj) (Je obj) hl).at0 (Hid.out (by assumption))).mono ?_
     rintro e wz ⟨rfl,sz⟩
     have g0:wz.cell? ⟨p,0,none⟩=some (ptr m):=(sz.row 1 rfl).cell rfl;have g1:wz.cell? ⟨p,3,none⟩=some (.func (.func 44) #[J 9] #[]):=(sz.row 1 rfl).cell rfl;have Hz:=zd sz
     clear sz))
 go_wp2
 go_ret
 exact Ends.mk [] (by simpa using Hz.out)
end
def wS (w:Int):Int:=w / 2305843009213693952
def wC (w:Int):Int:=w % 2305843009213693952
theorem qA {w:Int} (h:dC w):0≤wS w∧wS w≤7:=by obtain⟨h0,h1⟩:=h;unfold wS;omega
theorem oV (w:Int):0≤wC w∧wC w≤2305843009213693951:=by unfold wC;omega
def iD (w:Int):Int:=if wS w<3 then wC w else 0
def wst (w:Int):Int:=if wS w<3 then wS w else -1
def Et (n s:Int):Int:=s*2305843009213693952+n
def Ve (w:Int):Bool:=decide (wS w<2∧wC w<2305843009213693951)
def wm (w:Int):Int:=if Ve w=true then Et (wC w+1) 1 else 0
def Vo (w:Int):Bool:=decide (wS w=1)
def wr (w:Int):Int:=if Vo w=true then Et (wC w) 0 else 0
def Vf (w:Int):Bool:=decide (wS w=0)
def ws (w:Int):Int:=if Vf w=true then Et (wC w) 2 else 0
theorem Qa {n s:Int} (h0:0≤n) (h1:n≤2305843009213693951) (s0:0≤s) (s1:s≤2):dC (Et n s):=by unfold Et dC;omega
theorem PV {w:Int} (h:dC w):Go.bits .and .u64 w 2305843009213693951=wC w:=by
 obtain⟨h0,h1⟩:=h;rw[u64_and _ _ (by omega) (by omega) (by omega) (by omega)]
 have:(2305843009213693951:Int).toNat=2 ^ 61 - 1:=by decide
 rw[this,Nat.and_two_pow_sub_one_eq_mod];unfold wC
 omega
theorem Tc {n s:Int} (h0:0≤n) (h1:n≤2305843009213693951) (s0:0≤s) (s1:s≤2):Go.bits .or .u64 (s*2305843009213693952) n=Et n s:=by
 rw[u64_or _ _ (by omega) (by omega) (by omega) (by omega),nat_join 61 _ _ (by omega) (by omega)];unfold Et
 omega
def Same (f:FuncId) (args:Array Value) (r:Value):Prop:=∀ w,Calls prog f args w fun e w'=>e=.returned r∧w=w'
theorem jG {x:Int} (h:dC x):Same 206 #[Ju x] (.bool (decide (wS x<3))):=fun w=>by
 have h0:=h.1;have h1:=h.2;have e:x / 2305843009213693952=wS x:=rfl;clear h
 go_enter func206,ntmps206
 go_wp2
 go_ret
 exact⟨rfl,rfl⟩
theorem iw {x:Int} (h:dC x):Same 227 #[Ju x] (Ju (iD x)):=fun w=>by
 have ea:=PV h;have Ea:=zd ea;have H:=zd h;clear h ea
 by_cases c:wS x<3
 ·rw[show iD x=wC x from if_pos c]
  have d:decide (wS x<3)=true:=decide_eq_true c;have D:=zd d;clear d c
  go_enter func227,ntmps227
  go_wp2_with fail
  refine(jG H.out _).mono ?_
  rintro e w1 ⟨he,rfl⟩
  rw[D.out]at he;subst he;have ea:=Ea.out
  go_wp2
  go_ret
  exact⟨rfl,rfl⟩
 ·rw[show iD x=0 from if_neg c]
  have d:decide (wS x<3)=false:=decide_eq_false c;have D:=zd d;clear d c
  go_enter func227,ntmps227
  go_wp2_with fail
  refine(jG H.out _).mono ?_
  rintro e w1 ⟨he,rfl⟩
  rw[D.out]at he;subst he
  go_wp2
  go_ret
  exact⟨rfl,rfl⟩
theorem iC {x:Int} (h:dC x):Same 189 #[Ju x] (J (wst x)):=fun w=>by
 have h0:=h.1;have h1:=h.2;have b0:=(qA h).1;have b1:=(qA h).2;have H:=zd h
 by_cases c:wS x<3
 ·rw[show wst x=wS x from if_pos c]
  have d:decide (wS x<3)=true:=decide_eq_true c;have ee:IntKind.i64.wrap (wS x)=wS x:=by rw[IntKind.wrap_i64];omega
  have e:x / 2305843009213693952=wS x:=rfl;have D:=zd d;have Ee:=zd ee;have E:=zd e;clear d c h ee e
  go_enter func189,ntmps189
  go_wp2_with fail
  refine(jG H.out _).mono ?_
  rintro e w1 ⟨he,rfl⟩
  rw[D.out]at he;subst he;have ee:=Ee.out;have e:=E.out
  go_wp2
  go_ret
  exact⟨rfl,rfl⟩
 ·rw[show wst x= -1 from if_neg c]
  have d:decide (wS x<3)=false:=decide_eq_false c;have D:=zd d;clear d c h
  go_enter func189,ntmps189
  go_wp2_with fail
  refine(jG H.out _).mono ?_
  rintro e w1 ⟨he,rfl⟩
  rw[D.out]at he;subst he
  go_wp2
  go_ret
  exact⟨rfl,rfl⟩
theorem vU {n s:Int} (h0:0≤n) (h1:n≤2305843009213693951) (s0:0≤s) (s1:s≤2):Same 255 #[Ju n,J s] (.tuple #[Ju (Et n s),.bool true]):=fun w=>by
 have eo:=Tc h0 h1 s0 s1;have e1:IntKind.u64.wrap s=s:=by rw[IntKind.wrap_u64];omega
 have e2:IntKind.u64.wrap (s*2305843009213693952)=s*2305843009213693952:=by rw[IntKind.wrap_u64];omega
 go_enter func255,ntmps255
 go_wp2
 go_ret2
 exact⟨rfl,rfl⟩
theorem xR {x:Int} (h:wS x<3):iD x=wC x:=if_pos h
theorem E8 {x:Int} (h:wS x<3):wst x=wS x:=if_pos h
theorem Qk {x:Int} (h:dC x) (h1:wS x<2) (h2:wC x<2305843009213693951):Same 249 #[Ju x] (.tuple #[Ju (Et (wC x+1) 1),.bool true]):=fun w=>by
 have b0:=(qA h).1;have b1:=(qA h).2;have c0:=(oV x).1;have c1:=(oV x).2;have Hd:=zd (decide_eq_true (show wS x<3 by omega));have Hs:=zd (E8 (show wS x<3 by omega));have Hc:=zd (xR (show wS x<3 by omega));have n2:(wS x==2)=false:=beq_eq_false_iff_ne.2 (by omega);have n3:(wC x==2305843009213693951)=false:=beq_eq_false_iff_ne.2 (by omega);have e1:IntKind.u64.wrap (wC x+1)=wC x+1:=by rw[IntKind.wrap_u64];omega
 have H:=zd h;clear h
 go_enter func249,ntmps249
 go_wp2_with fail
 refine(jG H.out _).mono ?_
 rintro e w1 ⟨he,rfl⟩
 rw[show decide (wS x<3)=true from Hd.out]at he;subst he
 go_wp2_with fail
 refine(iC H.out _).mono ?_
 rintro e w1 ⟨he,rfl⟩
 rw[show wst x=wS x from Hs.out]at he;subst he
 go_wp2_with fail
 refine(iw H.out _).mono ?_
 rintro e w1 ⟨he,rfl⟩
 rw[show iD x=wC x from Hc.out]at he;subst he
 go_wp2_with fail
 refine(iw H.out _).mono ?_
 rintro e w1 ⟨he,rfl⟩
 rw[show iD x=wC x from Hc.out]at he;subst he
 go_wp2_with fail
 refine(vU (n:=wC x+1) (s:=1) (by omega) (by omega) (by omega) (by omega) _).mono ?_
 rintro e w1 ⟨rfl,rfl⟩
 go_wp2
 go_ret2
 exact⟨rfl,rfl⟩
theorem OT {x:Int} (h:dC x) (h1:3≤wS x):Same 249 #[Ju x] (.tuple #[Ju 0,.bool false]):=fun w=>by
 have b0:=(qA h).1;have b1:=(qA h).2;have c0:=(oV x).1;have c1:=(oV x).2;have Hd:=zd (decide_eq_false (show ¬ wS x<3 by omega));have Hs:=zd (show wst x= -1 from if_neg (by omega));have H:=zd h;clear h
 go_enter func249,ntmps249
 go_wp2_with fail
 refine(jG H.out _).mono ?_
 rintro e w1 ⟨he,rfl⟩
 rw[show decide (wS x<3)=false from Hd.out]at he;subst he
 go_wp2
 go_ret2
 exact⟨rfl,rfl⟩
theorem PN {x:Int} (h:dC x) (h1:wS x=2):Same 249 #[Ju x] (.tuple #[Ju 0,.bool false]):=fun w=>by
 have b0:=(qA h).1;have b1:=(qA h).2;have c0:=(oV x).1;have c1:=(oV x).2;have Hd:=zd (decide_eq_true (show wS x<3 by omega));have Hs:=zd (E8 (show wS x<3 by omega));have Hc:=zd (xR (show wS x<3 by omega));have Hs2:=zd (show wst x=2 by rw[Hs.out,h1]);clear h1 b0 b1;have H:=zd h;clear h
 go_enter func249,ntmps249
 go_wp2_with fail
 refine(jG H.out _).mono ?_
 rintro e w1 ⟨he,rfl⟩
 rw[show decide (wS x<3)=true from Hd.out]at he;subst he
 go_wp2_with fail
 refine(iC H.out _).mono ?_
 rintro e w1 ⟨he,rfl⟩
 rw[show wst x=2 from Hs2.out]at he;subst he
 go_wp2
 go_ret2
 exact⟨rfl,rfl⟩
theorem Qd {x:Int} (h:dC x) (h1:wS x<2) (h2:wC x=2305843009213693951):Same 249 #[Ju x] (.tuple #[Ju 0,.bool false]):=fun w=>by
 have b0:=(qA h).1;have b1:=(qA h).2;have c0:=(oV x).1;have c1:=(oV x).2;have Hd:=zd (decide_eq_true (show wS x<3 by omega));have Hs:=zd (E8 (show wS x<3 by omega));have Hc:=zd (xR (show wS x<3 by omega));have n2:(wS x==2)=false:=beq_eq_false_iff_ne.2 (by omega);have Hc2:=zd (show iD x=2305843009213693951 by rw[Hc.out,h2]);clear h2 c0 c1;have H:=zd h;clear h
 go_enter func249,ntmps249
 go_wp2_with fail
 refine(jG H.out _).mono ?_
 rintro e w1 ⟨he,rfl⟩
 rw[show decide (wS x<3)=true from Hd.out]at he;subst he
 go_wp2_with fail
 refine(iC H.out _).mono ?_
 rintro e w1 ⟨he,rfl⟩
 rw[show wst x=wS x from Hs.out]at he;subst he
 go_wp2_with fail
 refine(iw H.out _).mono ?_
 rintro e w1 ⟨he,rfl⟩
 rw[show iD x=2305843009213693951 from Hc2.out]at he;subst he
 go_wp2
 go_ret2
 exact⟨rfl,rfl⟩
theorem QQ {x:Int} (h:dC x) (h1:wS x=1):Same 299 #[Ju x] (.tuple #[Ju (Et (wC x) 0),.bool true]):=fun w=>by
 have b0:=(qA h).1;have b1:=(qA h).2;have c0:=(oV x).1;have c1:=(oV x).2;have Hd:=zd (decide_eq_true (show wS x<3 by omega));have Hs:=zd (E8 (show wS x<3 by omega));have Hc:=zd (xR (show wS x<3 by omega));have Hs2:=zd (show wst x=1 by rw[Hs.out,h1]);clear h1 b0 b1;have H:=zd h;clear h
 go_enter func299,ntmps299
 go_wp2_with fail
 refine(iC H.out _).mono ?_
 rintro e w1 ⟨he,rfl⟩
 rw[show wst x=1 from Hs2.out]at he;subst he
 go_wp2_with fail
 refine(iw H.out _).mono ?_
 rintro e w1 ⟨he,rfl⟩
 rw[show iD x=wC x from Hc.out]at he;subst he
 go_wp2_with fail
 refine(vU (n:=wC x) (s:=0) (by omega) (by omega) (by omega) (by omega) _).mono ?_
 rintro e w1 ⟨rfl,rfl⟩
 go_wp2
 go_ret2
 exact⟨rfl,rfl⟩
theorem Ry {x:Int} (h:dC x) (h1:¬ wst x=1):Same 299 #[Ju x] (.tuple #[Ju 0,.bool false]):=fun w=>by
 have b0:=(qA h).1;have b1:=(qA h).2;have c0:=(oV x).1;have c1:=(oV x).2;have n1:(wst x==1)=false:=beq_eq_false_iff_ne.2 h1;have n2:(wst x != 1)=true:=bne_iff_ne.2 h1;clear h1;have H:=zd h;clear h
 go_enter func299,ntmps299
 go_wp2_with fail
 refine(iC H.out _).mono ?_
 rintro e w1 ⟨rfl,rfl⟩
 go_wp2
 go_ret2
 exact⟨rfl,rfl⟩
theorem QI {x:Int} (h:dC x) (h1:wS x=0):Same 234 #[Ju x] (.tuple #[Ju (Et (wC x) 2),.bool true]):=fun w=>by
 have b0:=(qA h).1;have b1:=(qA h).2;have c0:=(oV x).1;have c1:=(oV x).2;have Hd:=zd (decide_eq_true (show wS x<3 by omega));have Hs:=zd (E8 (show wS x<3 by omega));have Hc:=zd (xR (show wS x<3 by omega));have Hs2:=zd (show wst x=0 by rw[Hs.out,h1]);clear h1 b0 b1;have H:=zd h;clear h
 go_enter func234,ntmps234
 go_wp2_with fail
 refine(iC H.out _).mono ?_
 rintro e w1 ⟨he,rfl⟩
 rw[show wst x=0 from Hs2.out]at he;subst he
 go_wp2_with fail
 refine(iw H.out _).mono ?_
 rintro e w1 ⟨he,rfl⟩
 rw[show iD x=wC x from Hc.out]at he;subst he
 go_wp2_with fail
 refine(vU (n:=wC x) (s:=2) (by omega) (by omega) (by omega) (by omega) _).mono ?_
 rintro e w1 ⟨rfl,rfl⟩
 go_wp2
 go_ret2
 exact⟨rfl,rfl⟩
theorem TM {x:Int} (h:dC x) (h1:¬ wst x=0):Same 234 #[Ju x] (.tuple #[Ju 0,.bool false]):=fun w=>by
 have b0:=(qA h).1;have b1:=(qA h).2;have c0:=(oV x).1;have c1:=(oV x).2;have n1:(wst x==0)=false:=beq_eq_false_iff_ne.2 h1;have n2:(wst x != 0)=true:=bne_iff_ne.2 h1;clear h1;have H:=zd h;clear h
 go_enter func234,ntmps234
 go_wp2_with fail
 refine(iC H.out _).mono ?_
 rintro e w1 ⟨rfl,rfl⟩
 go_wp2
 go_ret2
 exact⟨rfl,rfl⟩
def tB (how:Nat) (x:Int):Bool:=match how with|0=>Ve x|1=>Vo x|_=>Vf x
def tW (how:Nat) (x:Int):Int:=match how with|0=>wm x|1=>wr x|_=>ws x
def tR (how:Nat) (x:Int):Value:=.tuple #[Ju (tW how x),.bool (tB how x)]
theorem TG {x:Int} (h1:wS x<2) (h2:wC x<2305843009213693951):tR 0 x=.tuple #[Ju (Et (wC x+1) 1),.bool true]:=by
 have:Ve x=true:=decide_eq_true ⟨h1,h2⟩
 simp[tR,tW,tB,wm,this]
theorem IM {x:Int} (h:¬ (wS x<2∧wC x<2305843009213693951)):tR 0 x=.tuple #[Ju 0,.bool false]:=by
 have:Ve x=false:=decide_eq_false h
 simp[tR,tW,tB,wm,this]
theorem RQ {x:Int} (h:wS x=1):tR 1 x=.tuple #[Ju (Et (wC x) 0),.bool true]:=by
 have:Vo x=true:=decide_eq_true h
 simp[tR,tW,tB,wr,this]
theorem UR {x:Int} (h:¬ wS x=1):tR 1 x=.tuple #[Ju 0,.bool false]:=by
 have:Vo x=false:=decide_eq_false h
 simp[tR,tW,tB,wr,this]
theorem TA {x:Int} (h:wS x=0):tR 2 x=.tuple #[Ju (Et (wC x) 2),.bool true]:=by
 have:Vf x=true:=decide_eq_true h
 simp[tR,tW,tB,ws,this]
theorem Un {x:Int} (h:¬ wS x=0):tR 2 x=.tuple #[Ju 0,.bool false]:=by
 have:Vf x=false:=decide_eq_false h
 simp[tR,tW,tB,ws,this]
theorem Pz {x k:Int} (hk:0≤k) (h:¬ wS x=k):¬ wst x=k:=by unfold wst;split<;>omega
theorem Bf {x:Int} (h:dC x):Same 249 #[Ju x] (tR 0 x):=by
 have hb:=oV x
 by_cases h3:3≤wS x
 ·rw[IM (by omega)];exact OT h h3
 by_cases h2:wS x=2
 ·rw[IM (by omega)];exact PN h h2
 by_cases hc:wC x=2305843009213693951
 ·rw[IM (by omega)];exact Qd h (by omega) hc
 ·rw[TG (by omega) (by omega)];exact Qk h (by omega) (by omega)
theorem Ak {x:Int} (h:dC x):Same 299 #[Ju x] (tR 1 x):=by
 by_cases h1:wS x=1
 ·rw[RQ h1];exact QQ h h1
 ·rw[UR h1];exact Ry h (Pz (by omega) h1)
theorem Ad {x:Int} (h:dC x):Same 234 #[Ju x] (tR 2 x):=by
 by_cases h1:wS x=0
 ·rw[TA h1];exact QI h h1
 ·rw[Un h1];exact TM h (Pz (by omega) h1)
theorem TB {how:Nat} {x:Int} (hb:tB how x=true):dC (tW how x):=by
 have c:=oV x
 match how,hb with
 |0,hb=>
  have hb:Ve x=true:=hb;obtain⟨h1,h2⟩:=of_decide_eq_true hb
  show dC (wm x)
  rw[show wm x=Et (wC x+1) 1 from if_pos hb]
  exact Qa (by omega) (by omega) (by omega) (by omega)
 |1,hb=>
  have hb:Vo x=true:=hb
  show dC (wr x)
  rw[show wr x=Et (wC x) 0 from if_pos hb]
  exact Qa (by omega) (by omega) (by omega) (by omega)
 |n+2,hb=>
  have hb:Vf x=true:=hb
  show dC (ws x)
  rw[show ws x=Et (wC x) 2 from if_pos hb]
  exact Qa (by omega) (by omega) (by omega) (by omega)
theorem Og {As:List HA} {w:World}:∀ {fp:List Nat} {j b:Nat} {vs:List Value} {t:TypeId},(aG As).holds w fp→As[j]? =some (box b vs t)→b∈fp:=by
 induction As with
 |nil=>intro fp j b vs t _ h;simp at h
 |cons A As ih=>
  rintro fp j b vs t ⟨f,g,h1,h2,h3,rfl⟩ hj
  cases j with
  |zero=>simp at hj;subst hj;obtain⟨_,rfl⟩:=h1;simp
  |succ j=>exact List.mem_append.2 (.inr (ih h2 (by simpa using hj)))
theorem QE {As:List HA} {w:World}:∀ {fp:List Nat} {i j a b:Nat} {vs us:List Value} {t r:TypeId},(aG As).holds w fp→i<j→As[i]? =some (box a vs t)→As[j]? =some (box b us r)→a≠b:=by
 induction As with
 |nil=>intro fp i j a b vs us t r _ _ h;simp at h
 |cons A As ih=>
  rintro fp i j a b vs us t r ⟨f,g,h1,h2,h3,rfl⟩ hij hi hj
  cases j with
  |zero=>omega
  |succ j=>
   cases i with
   |zero=>
    simp at hi
    subst hi;obtain⟨_,rfl⟩:=h1
    have:=Og (vs:=us) (t:=r) h2 (j:=j) (by simpa using hj)
    exact fun e=>h3 a (by simp) (e▸this)
   |succ i=>exact ih (vs:=vs) (us:=us) (t:=t) (r:=r) h2 (by omega:i<j) (by simpa using hi) (by simpa using hj)
theorem Scope.bne {S:List Nat} {w0 w:World} {As:List HA} {i j a b:Nat} {vs us:List Value} {t r:TypeId} (h:Scope S w0 w As) (hij:i<j) (hi:As[i]? =some (Go.Proofs.YtjnbbmgbmiggbaaGreatDoor.box a vs t)) (hj:As[j]? =some (Go.Proofs.YtjnbbmgbmiggbaaGreatDoor.box b us r)):a≠b:=by
 obtain⟨_,fp,h1,_⟩:=h
 exact QE h1 hij hi hj
theorem EU:∀ (l:List Pk) (k:Nat) (p:Pk),l[k]? =some p→(iU l)[k*3]? =some (J p.flow)∧(iU l)[k*3+1]? =some (J p.len)∧(iU l)[k*3+2]? =some (J p.mark):=by
 intro l
 induction l with
 |nil=>intro k p h;simp at h
 |cons x l ih=>
  intro k p h
  have e:iU (x::l)=x.cells++iU l:=by simp[iU]
  cases k with
  |zero=>simp at h;subst h;rw[e];exact⟨rfl,rfl,rfl⟩
  |succ k=>
   obtain⟨h0,h1,h2⟩:=ih k p (by simpa using h);have hl:x.cells.length=3:=rfl;rw[e,List.getElem?_append_right (by omega),List.getElem?_append_right (by omega),List.getElem?_append_right (by omega),hl,show(k+1)*3 - 3=k*3 by omega,show(k+1)*3+1 - 3=k*3+1 by omega,show(k+1)*3+2 - 3=k*3+2 by omega]
   exact⟨h0,h1,h2⟩
theorem Tt:∀ (l:List Pk) (k:Nat) (p:Pk),k<l.length→(((iU l).set (k*3) (J p.flow)).set (k*3+1) (J p.len)).set (k*3+2) (J p.mark)=iU (l.set k p):=by
 intro l
 induction l with
 |nil=>intro k p h;simp at h
 |cons x l ih=>
  intro k p h
  have e:∀ y,iU (y::l)=y.cells++iU l:=fun y=>by simp[iU]
  have e':∀ l',iU (x::l')=x.cells++iU l':=fun y=>by simp[iU]
  cases k with
  |zero=>simp only[List.set_cons_zero];rw[e,e];rfl
  |succ k=>
   have:=ih k p (by simpa using h)
   simp only[List.set_cons_succ];rw[e',e', ←this];have hl:x.cells.length=3:=rfl;rw[List.set_append_right _ _ (by omega),List.set_append_right _ _ (by omega),List.set_append_right _ _ (by omega),hl,show(k+1)*3 - 3=k*3 by omega,show(k+1)*3+1 - 3=k*3+1 by omega,show(k+1)*3+2 - 3=k*3+2 by omega]
@[reducible] def rb (p m:Nat) (obj:Int) (g n:Nat):HA:=box p [ptr m,J obj,.slice (some ⟨g,0,none⟩) n n] 272
@[reducible] def gb (g:Nat) (cs:List Pk):HA:=box g (iU cs) 64
@[reducible] def bQ (obj:Int):Lc:=⟨11,obj,0⟩
@[reducible] def jU (obj:Int):Lc:=⟨12,obj,0⟩
@[reducible] def lK (obj:Int) (c:Nat):Lc:=⟨15,obj,c⟩
@[reducible] def cellL (obj:Int) (c:Nat):Lc:=⟨16,obj,c⟩
theorem um {obj:Int} (h:I64 obj):(bQ obj).wf:=⟨(show I64 11 from lH (by omega) (by omega)),h,(show I64 0 from lH (by omega) (by omega))⟩
theorem Dx {obj:Int} (h:I64 obj):(jU obj).wf:=⟨(show I64 12 from lH (by omega) (by omega)),h,(show I64 0 from lH (by omega) (by omega))⟩
theorem EH {obj:Int} {c:Nat} (h:I64 obj) (hc:c≤1000):(lK obj c).wf:=⟨(show I64 15 from lH (by omega) (by omega)),h,(show I64 (c:Int)from lH (by omega) (by omega))⟩
def ix (n:Int) (l:Nat):Nat:=(n % (l:Int)).toNat
theorem yJ {n:Int} {l:Nat} (h:0<l):ix n l<l:=by
 have h1:=Int.emod_nonneg n (show(l:Int)≠0 by omega);have h2:=Int.emod_lt_of_pos n (show(0:Int)<(l:Int) by omega);unfold ix
 omega
theorem U9 {n:Int} {l:Nat} (h:0<l):n % (l:Int)=(ix n l:Int):=by
 have h1:=Int.emod_nonneg n (show(l:Int)≠0 by omega);unfold ix
 omega
section
variable {p m g:Nat} {obj:Int} {σ:MS} {cs:List Pk}
theorem kE (n:Nat) (k c:Int):Does prog [rb p m obj g n] 205 #[ptr p,J k,J c] (⟨k,obj,c⟩:Lc).val [rb p m obj g n]:=Does.ax fun S w0 w h=>by
 have c1:At w p 1 (J obj):=(h.row 0 rfl).cell rfl;have lp:=(h.row 0 rfl).lt;have H0:=zd h;clear h
 go_enter func205,ntmps205
 go_wp2
 refine bodyPost_ret (results_cell_row rfl _ _ w.heap.size 40 #[J k,J obj,J c] (0,0) _ rfl (Row.new w [J k,J obj,J c] 40) underlying40 rfl (by kernel_rfl)) rfl ?_
 exact Ends.mk [] (by simpa using H0.out.alloc _)
theorem lM {x:Int} (hx:dC x) (l:Nat) (h0:0<l) (h1:l≤1000):Does prog [rb p m obj g l] 268 #[ptr p,Ju x] (J (ix x l:Nat)) [rb p m obj g l]:=Does.ax fun S w0 w h=>by
 have c1:At w p 2 (.slice (some ⟨g,0,none⟩) l l):=(h.row 0 rfl).cell rfl;have x0:=hx.1;have x1:=hx.2;have e1:IntKind.u64.wrap (l:Int)=(l:Int):=by rw[IntKind.wrap_u64];omega
 have b:=yJ (n:=x) h0;have e2:x % (l:Int)=(ix x l:Int):=U9 h0;have e3:x.tmod (l:Int)=(ix x l:Int):=by rw[Int.tmod_eq_emod_of_nonneg x0,e2]
 have e4:IntKind.i64.wrap (ix x l:Int)=(ix x l:Int):=by rw[IntKind.wrap_i64];omega
 have e5:IntKind.u64.wrap (ix x l:Int)=(ix x l:Int):=by rw[IntKind.wrap_u64];omega
 have l0:(0:Int)<(l:Int):=by omega
 have H0:=zd h;clear h hx
 go_enter func268,ntmps268
 go_wp2
 go_ret
 exact Ends.mk [] (by simpa using H0.out)
theorem KF (who:Int) (ho:I64 obj) (hl:σ.log.length≤1000000):
  Does prog [bF m (σ),rb p m obj g cs.length,gb g cs] 188 #[ptr p,J who] (Ju (σ.num (bQ obj))) [bF m (σ.put who 1 (bQ obj)),rb p m obj g cs.length,gb g cs]:=Does.ax fun S w0 w h=>by
 have zm:w.cell? ⟨p,0,none⟩=some (ptr m):=(h.row 1 rfl).cell rfl;have zsl:w.cell? ⟨p,2,none⟩=some (.slice (some ⟨g,0,none⟩) cs.length cs.length):=(h.row 1 rfl).cell rfl;have H0:=zd h.drew;have H00:=zd h;clear h;have hw:=um ho;have Hw:=zd hw;clear hw
 go_enter func188,ntmps188
 go_wp2_with fail
 go_region_held3 (fun w'=>w'.cell? ⟨p,0,none⟩=some (ptr m)) (go_keep)
  (first
   |(go_at_call 205
     refine((kE cs.length 11 0).fC (Hid.out (by assumption))).mono ?_
     rintro e wq ⟨rfl,sq⟩
     have zm:wq.cell? ⟨p,0,none⟩=some (ptr m):=(sq.row 1 rfl).cell rfl;have Hq:=zd sq
     clear sq)
   |(go_at_call 184
     refine((jP who (bQ obj) Hw.out hl).at0 (Hid.out (by assumption))).mono ?_
     rintro e wz ⟨rfl,sq⟩
     have zm:wz.cell? ⟨p,0,none⟩=some (ptr m):=(sq.row 1 rfl).cell rfl;have Hz:=zd sq
     clear sq))
 go_wp2
 go_ret
 exact Ends.mk [] (by simpa using Hz.out)
theorem JE (who:Int) (ho:I64 obj) (hl:σ.log.length≤1000000):
  Does prog [bF m (σ),rb p m obj g cs.length,gb g cs] 207 #[ptr p,J who] (Ju (σ.num (jU obj))) [bF m (σ.put who 1 (jU obj)),rb p m obj g cs.length,gb g cs]:=Does.ax fun S w0 w h=>by
 have zm:w.cell? ⟨p,0,none⟩=some (ptr m):=(h.row 1 rfl).cell rfl;have zsl:w.cell? ⟨p,2,none⟩=some (.slice (some ⟨g,0,none⟩) cs.length cs.length):=(h.row 1 rfl).cell rfl;have H0:=zd h.drew;have H00:=zd h;clear h;have hw:=Dx ho;have Hw:=zd hw;clear hw
 go_enter func207,ntmps207
 go_wp2_with fail
 go_region_held3 (fun w'=>w'.cell? ⟨p,0,none⟩=some (ptr m)) (go_keep)
  (first
   |(go_at_call 205
     refine((kE cs.length 12 0).fC (Hid.out (by assumption))).mono ?_
     rintro e wq ⟨rfl,sq⟩
     have zm:wq.cell? ⟨p,0,none⟩=some (ptr m):=(sq.row 1 rfl).cell rfl;have Hq:=zd sq
     clear sq)
   |(go_at_call 184
     refine((jP who (jU obj) Hw.out hl).at0 (Hid.out (by assumption))).mono ?_
     rintro e wz ⟨rfl,sq⟩
     have zm:wz.cell? ⟨p,0,none⟩=some (ptr m):=(sq.row 1 rfl).cell rfl;have Hz:=zd sq
     clear sq))
 go_wp2
 go_ret
 exact Ends.mk [] (by simpa using Hz.out)
theorem H8 (who x:Int) (ho:I64 obj) (hl:σ.log.length≤1000000):
  Does prog [bF m (σ),rb p m obj g cs.length,gb g cs] 291 #[ptr p,J who,Ju x] (.tuple #[]) [bF m ((σ.put who 2 (jU obj)).set (jU obj) (IntKind.u64.wrap (x+1))),rb p m obj g cs.length,gb g cs]:=Does.ax fun S w0 w h=>by
 have zm:w.cell? ⟨p,0,none⟩=some (ptr m):=(h.row 1 rfl).cell rfl;have zsl:w.cell? ⟨p,2,none⟩=some (.slice (some ⟨g,0,none⟩) cs.length cs.length):=(h.row 1 rfl).cell rfl;have H0:=zd h.drew;have H00:=zd h;clear h;have hw:=Dx ho;have Hw:=zd hw;clear hw
 go_enter func291,ntmps291
 go_wp2_with fail
 go_region_held3 (fun w'=>w'.cell? ⟨p,0,none⟩=some (ptr m)) (go_keep)
  (first
   |(go_at_call 205
     refine((kE cs.length 12 0).fC (Hid.out (by assumption))).mono ?_
     rintro e wq ⟨rfl,sq⟩
     have zm:wq.cell? ⟨p,0,none⟩=some (ptr m):=(sq.row 1 rfl).cell rfl;have Hq:=zd sq
     clear sq)
   |(go_at_call 175
     refine((jA who (jU obj) Hw.out (IntKind.u64.wrap (x+1)) (xN _) hl).at0 (Hid.out (by assumption))).mono ?_
     rintro e wz ⟨rfl,sq⟩
     have zm:wz.cell? ⟨p,0,none⟩=some (ptr m):=(sq.row 1 rfl).cell rfl;have Hz:=zd sq
     clear sq))
 go_wp2
 go_end0
 exact Ends.mk [] (by simpa using Hz.out)
theorem Ih (who x:Int) (ho:I64 obj) (hl:σ.log.length≤1000000) (hx:dC x) (c0:0<cs.length) (c8:cs.length≤1000):
  Does prog [bF m (σ),rb p m obj g cs.length,gb g cs] 262 #[ptr p,J who,Ju x] (.tuple #[]) [bF m ((σ.put who 2 (lK obj (ix x cs.length))).set (lK obj (ix x cs.length)) (IntKind.u64.wrap (x+1))),rb p m obj g cs.length,gb g cs]:=Does.ax fun S w0 w h=>by
 have zm:w.cell? ⟨p,0,none⟩=some (ptr m):=(h.row 1 rfl).cell rfl;have zsl:w.cell? ⟨p,2,none⟩=some (.slice (some ⟨g,0,none⟩) cs.length cs.length):=(h.row 1 rfl).cell rfl;have H0:=zd h.drew;have H00:=zd h;clear h;have bx:=yJ (n:=x) c0;have hw:=EH (c:=ix x cs.length) ho (by omega);have Hw:=zd hw;clear hw
 go_enter func262,ntmps262
 go_wp2_with fail
 go_region_held3 (fun w'=>w'.cell? ⟨p,0,none⟩=some (ptr m)) (go_keep)
  (first
   |(go_at_call 268
     refine((lM hx cs.length c0 c8).fC (Hid.out (by assumption))).mono ?_
     rintro e wq ⟨rfl,sq⟩
     have zm:wq.cell? ⟨p,0,none⟩=some (ptr m):=(sq.row 1 rfl).cell rfl;have Hq:=zd sq
     clear sq)
   |(go_at_call 205
     refine((kE cs.length 15 (ix x cs.length:Nat)).fC (Hid.out (by assumption))).mono ?_
     rintro e wq ⟨rfl,sq⟩
     have zm:wq.cell? ⟨p,0,none⟩=some (ptr m):=(sq.row 1 rfl).cell rfl;have Hq:=zd sq
     clear sq)
   |(go_at_call 175
     refine((jA who (lK obj (ix x cs.length)) Hw.out (IntKind.u64.wrap (x+1)) (xN _) hl).at0 (Hid.out (by assumption))).mono ?_
     rintro e wz ⟨rfl,sq⟩
     have zm:wz.cell? ⟨p,0,none⟩=some (ptr m):=(sq.row 1 rfl).cell rfl;have Hz:=zd sq
     clear sq))
 go_wp2
 go_end0
 exact Ends.mk [] (by simpa using Hz.out)
theorem ES (who x:Int) (ho:I64 obj) (hl:σ.log.length≤1000000) (hx:dC x) (c0:0<cs.length) (c8:cs.length≤1000):
  Does prog [bF m (σ),rb p m obj g cs.length,gb g cs] 287 #[ptr p,J who,Ju x] (.bool (σ.num (lK obj (ix x cs.length))==IntKind.u64.wrap (x+1))) [bF m (σ.put who 1 (lK obj (ix x cs.length))),rb p m obj g cs.length,gb g cs]:=Does.ax fun S w0 w h=>by
 have zm:w.cell? ⟨p,0,none⟩=some (ptr m):=(h.row 1 rfl).cell rfl;have zsl:w.cell? ⟨p,2,none⟩=some (.slice (some ⟨g,0,none⟩) cs.length cs.length):=(h.row 1 rfl).cell rfl;have H0:=zd h.drew;have H00:=zd h;clear h;have bx:=yJ (n:=x) c0;have hw:=EH (c:=ix x cs.length) ho (by omega);have Hw:=zd hw;clear hw
 go_enter func287,ntmps287
 go_wp2_with fail
 go_region_held3 (fun w'=>w'.cell? ⟨p,0,none⟩=some (ptr m)) (go_keep)
  (first
   |(go_at_call 268
     refine((lM hx cs.length c0 c8).fC (Hid.out (by assumption))).mono ?_
     rintro e wq ⟨rfl,sq⟩
     have zm:wq.cell? ⟨p,0,none⟩=some (ptr m):=(sq.row 1 rfl).cell rfl;have Hq:=zd sq
     clear sq)
   |(go_at_call 205
     refine((kE cs.length 15 (ix x cs.length:Nat)).fC (Hid.out (by assumption))).mono ?_
     rintro e wq ⟨rfl,sq⟩
     have zm:wq.cell? ⟨p,0,none⟩=some (ptr m):=(sq.row 1 rfl).cell rfl;have Hq:=zd sq
     clear sq)
   |(go_at_call 184
     refine((jP who (lK obj (ix x cs.length)) Hw.out hl).at0 (Hid.out (by assumption))).mono ?_
     rintro e wz ⟨rfl,sq⟩
     have zm:wz.cell? ⟨p,0,none⟩=some (ptr m):=(sq.row 1 rfl).cell rfl;have Hz:=zd sq
     clear sq))
 go_wp2
 go_ret
 exact Ends.mk [] (by simpa using Hz.out)
theorem JI {x hd:Int} (hx:dC x) (hh:dC hd) (c8:cs.length≤1000):Does prog [rb p m obj g cs.length] 208 #[ptr p,Ju x,Ju hd] (.bool (decide (hd≤iD x∧(cs.length:Int)≤iD x - hd))) [rb p m obj g cs.length]:=Does.ax fun S w0 w h=>by
 have c1:At w p 2 (.slice (some ⟨g,0,none⟩) cs.length cs.length):=(h.row 0 rfl).cell rfl;have e1:IntKind.u64.wrap (cs.length:Int)=(cs.length:Int):=by rw[IntKind.wrap_u64];omega
 have cb:0≤iD x∧iD x≤2305843009213693951:=by have:=oV x;unfold iD;split<;>omega
 have h0:=hh.1;have h1:=hh.2;have H0:=zd h;have Hx:=zd hx;clear h hx hh
 by_cases a:hd≤iD x
 ·have e2:IntKind.u64.wrap (iD x - hd)=iD x - hd:=by rw[IntKind.wrap_u64];omega
  have R:decide (hd≤iD x∧(cs.length:Int)≤iD x - hd)=decide ((cs.length:Int)≤iD x - hd):=by rw[Bool.eq_iff_iff];simp[a]
  have Rr:=zd R;clear cb R
  go_enter func208,ntmps208
  go_wp2_with fail
  refine(iw Hx.out _).mono ?_
  rintro e w1 ⟨rfl,rfl⟩
  go_wp2
  go_ret
  exact Ends.mk' (by rw[Rr.out];rfl) [] (by simpa using H0.out)
 ·rw[decide_eq_false (show ¬ (hd≤iD x∧(cs.length:Int)≤iD x - hd) by omega)]
  clear cb
  go_enter func208,ntmps208
  go_wp2_with fail
  refine(iw Hx.out _).mono ?_
  rintro e w1 ⟨rfl,rfl⟩
  go_wp2
  go_ret
  exact Ends.mk [] (by simpa using H0.out)
theorem Nv (who x:Int) (k:Pk) (ho:I64 obj) (hl:σ.log.length≤1000000) (hx:dC x) (c0:0<cs.length) (c8:cs.length≤1000):Does prog [bF m (σ),rb p m obj g cs.length,gb g cs] 261 #[ptr p,J who,Ju x,k.val] (.tuple #[]) [bF m (σ.put who 6 (cellL obj (ix x cs.length))),rb p m obj g cs.length,gb g (cs.set (ix x cs.length) k)]:=Does.ax fun S w0 w h=>by
 have s1:=zd (show Scope S w0 (w.alloc (.cells #[J k.flow,J k.len,J k.mark] 64)).drew ([bF m (σ),rb p m obj g cs.length,gb g cs]++[box w.heap.size [J k.flow,J k.len,J k.mark] 64])from(h.box [J k.flow,J k.len,J k.mark] 64).drew);have zm:(w.alloc (.cells #[J k.flow,J k.len,J k.mark] 64)).drew.cell? ⟨p,0,none⟩=some (ptr m):=(s1.out.row 1 rfl).cell rfl;have bx:=yJ (n:=x) c0;have Bx:=zd bx;clear h bx;unfold Pk.val
 go_enter func261,ntmps261
 go_wp2_with fail
 go_region_held3 (fun w'=>w'.cell? ⟨p,0,none⟩=some (ptr m)) (go_keep)
  (first
   |(go_at_call 268
     refine((lM hx cs.length c0 c8).fC (Hid.out (by assumption))).mono ?_
     rintro e wq ⟨rfl,sq⟩
     have zm:wq.cell? ⟨p,0,none⟩=some (ptr m):=(sq.row 1 rfl).cell rfl;have Hq:=zd sq
     clear sq)
   |(go_at_call 205
     refine((kE cs.length 16 (ix x cs.length:Nat)).fC (Hid.out (by assumption))).mono ?_
     rintro e wq ⟨rfl,sq⟩
     have zm:wq.cell? ⟨p,0,none⟩=some (ptr m):=(sq.row 1 rfl).cell rfl;have Hq:=zd sq
     clear sq)
   |(go_at_call 141
     refine((nO who (cellL obj (ix x cs.length)) hl).at0 (Hid.out (by assumption))).mono ?_
     rintro e wz ⟨rfl,sq⟩
     have zm:wz.cell? ⟨p,0,none⟩=some (ptr m):=(sq.row 1 rfl).cell rfl;have Hz:=zd sq
     clear sq))
 clear zm;obtain⟨B,hB⟩:∃ B,B=w.heap.size:=⟨_,rfl⟩
 have Z1:=zd (show Scope S w0 wz.drew ([bF m (σ.put who 6 (cellL obj (ix x cs.length))),rb p m obj g cs.length,gb g cs]++[box B [J k.flow,J k.len,J k.mark] 64])from by rw[hB];exact Hz.out.drew)
 go_wp2_with fail
 rw[←hB];clear hB Hz s1;refine aP (by kernel_rfl) ?_;have h0:wz.drew.cell? ⟨p,2,none⟩=some (.slice (some ⟨g,0,none⟩) cs.length cs.length)∧wz.drew.cell? ⟨B,0,none⟩=some (J k.flow)∧wz.drew.cell? ⟨B,1,none⟩=some (J k.len)∧wz.drew.cell? ⟨B,2,none⟩=some (J k.mark):=⟨(Z1.out.row 1 rfl).cell rfl,(Z1.out.row 3 rfl).cell rfl,(Z1.out.row 3 rfl).cell rfl,(Z1.out.row 3 rfl).cell rfl⟩
 have i0:(0:Int)≤((ix x cs.length:Nat):Int):=by omega
 have bx:=Bx.out;have i1:((ix x cs.length:Nat):Int)<(cs.length:Int):=by omega
 clear bx;refine bu (S:=fun w'=>w'.cell? ⟨p,2,none⟩=some (.slice (some ⟨g,0,none⟩) cs.length cs.length)∧w'.cell? ⟨B,0,none⟩=some (J k.flow)∧w'.cell? ⟨B,1,none⟩=some (J k.len)∧w'.cell? ⟨B,2,none⟩=some (J k.mark)) (U:=[0,1,2,3,4,5,6,7,8]) _ _ _ _ ?_;refine aJ (i:=0) (v:=?_) rfl (by kernel_rfl) (fun _ _ _ h=>h) (Or.inl ⟨by rfl,?_⟩) h0 ?_
 rotate_left 1
 ·(intro w' hS;(try dsimp only at hS);(try simp only[ag,ah,aj]);go_simp;(try with_reducible rfl))
 try simp only[Act.put,ag,ah,aj,aF,aB,aC]
 refine aJ (i:=1) (v:=?_) rfl (by kernel_rfl) (fun _ _ _ h=>h) (Or.inl ⟨by rfl,?_⟩) h0 ?_
 rotate_left 1
 ·(intro w' hS;(try dsimp only at hS);(try simp only[ag,ah,aj]);go_simp;(try with_reducible rfl))
 try simp only[Act.put,ag,ah,aj,aF,aB,aC]
 refine aJ (i:=2) (v:=?_) rfl (by kernel_rfl) (fun _ _ _ h=>h) (Or.inl ⟨by rfl,?_⟩) h0 ?_
 rotate_left 1
 ·(intro w' hS;(try dsimp only at hS);(try simp only[ag,ah,aj]);go_simp;(try with_reducible rfl))
 try simp only[Act.put,ag,ah,aj,aF,aB,aC]
 refine aJ (i:=3) (v:=?_) rfl (by kernel_rfl) (fun _ _ _ h=>h) (Or.inl ⟨by rfl,?_⟩) h0 ?_
 rotate_left 1
 ·(intro w' hS;(try dsimp only at hS);(try simp only[ag,ah,aj]);go_simp;(try with_reducible rfl))
 try simp only[Act.put,ag,ah,aj,aF,aB,aC]
 refine aJ (i:=4) (v:=?_) rfl (by kernel_rfl) (fun _ _ _ h=>h) (Or.inl ⟨by rfl,?_⟩) h0 ?_
 rotate_left 1
 ·(intro w' hS;(try dsimp only at hS);(try simp only[ag,ah,aj]);go_simp;(try with_reducible rfl))
 try simp only[Act.put,ag,ah,aj,aF,aB,aC]
 refine aJ (i:=5) (v:=?_) rfl (by kernel_rfl) (fun _ _ _ h=>h) (Or.inl ⟨by rfl,?_⟩) h0 ?_
 rotate_left 1
 ·(intro w' hS;(try dsimp only at hS);(try simp only[ag,ah,aj]);go_simp;(try with_reducible rfl))
 try simp only[Act.put,ag,ah,aj,aF,aB,aC]
 refine aJ (i:=7) (v:=?_) rfl (by kernel_rfl) (fun _ _ _ h=>h) (Or.inl ⟨by rfl,?_⟩) h0 ?_
 rotate_left 1
 ·(intro w' hS;(try dsimp only at hS);(try simp only[ag,ah,aj]);go_simp;(try with_reducible rfl))
 try simp only[Act.put,ag,ah,aj,aF,aB,aC]
 refine aK 6 (by kernel_rfl) rfl (by rfl) fun K hK=>?_
 go_simp;refine((lM hx cs.length c0 c8).fC Z1.out).mono ?_
 rintro e wy ⟨rfl,sq⟩
 have h1:wy.cell? ⟨p,2,none⟩=some (.slice (some ⟨g,0,none⟩) cs.length cs.length)∧wy.cell? ⟨B,0,none⟩=some (J k.flow)∧wy.cell? ⟨B,1,none⟩=some (J k.len)∧wy.cell? ⟨B,2,none⟩=some (J k.mark):=⟨(sq.row 1 rfl).cell rfl,(sq.row 3 rfl).cell rfl,(sq.row 3 rfl).cell rfl,(sq.row 3 rfl).cell rfl⟩
 have Z2:=zd sq;refine hK _ _ ⟨fun _=>h1,?_⟩;clear hK K sq h0
 try simp only[Act.put,ag,ah,aj,aF,aB,aC]
 refine aJ (i:=8) (v:=?_) rfl (by kernel_rfl) (fun _ _ _ h=>h) (Or.inl ⟨by rfl,?_⟩) h1 ?_
 rotate_left 1
 ·(intro w' hS;(try dsimp only at hS);(try simp only[ag,ah,aj]);go_simp;(try with_reducible rfl))
 try simp only[Act.put,ag,ah,aj,aF,aB,aC]
 refine aX _ _ _ _ (fun j hj=>?_) ?_
 ·simp at hj;rcases hj with rfl|rfl|rfl|rfl|rfl|rfl|rfl|rfl|rfl<;>rfl
 obtain⟨y,hy⟩:∃ y,cs[ix x cs.length]? =some y:=⟨_,List.getElem?_eq_getElem Bx.out⟩
 obtain⟨y0,y1,y2⟩:=EU cs _ y hy;have rg:=Z2.out.row (k:=g) (vs:=iU cs) (t:=64) 2 rfl;have f0:=rg.free (ix x cs.length*3);have f1:=rg.free (ix x cs.length*3+1);have f2:=rg.free (ix x cs.length*3+2);have x0:=rg.cell y0;have x1:=rg.cell y1;have x2:=rg.cell y2;clear h1 y0 y1 y2 hy rg;refine af 9 (by kernel_rfl) rfl (by rfl) fun K hK=>?_
 go_simp;refine hK _ _ ?_;clear hK K
 try simp only[Act.put,ag,ah,aj,aF,aB,aC]
 refine wpAny_done (by kernel_rfl) ?_ _;clear f0 f1 f2 x0 x1 x2
 go_wp2
 go_end0
 refine Ends.mk [box B [J k.flow,J k.len,J k.mark] 64] ?_;have q1:=Scope.au (As:=[bF m _,rb p m obj g cs.length]) (Bs:=[box B _ 64]) Z2.out (ix x cs.length*3) (J k.flow);have q2:=Scope.au (As:=[bF m _,rb p m obj g cs.length]) (Bs:=[box B _ 64]) q1 (ix x cs.length*3+1) (J k.len);have q3:=Scope.au (As:=[bF m _,rb p m obj g cs.length]) (Bs:=[box B _ 64]) q2 (ix x cs.length*3+2) (J k.mark);rw[Tt cs _ k Bx.out]at q3
 exact q3
theorem Ov (who x:Int) (k:Pk) (ho:I64 obj) (hl:σ.log.length≤1000000) (hx:dC x) (c0:0<cs.length) (c8:cs.length≤1000) (hk:cs[ix x cs.length]? =some k):Does prog [bF m (σ),rb p m obj g cs.length,gb g cs] 289 #[ptr p,J who,Ju x] k.val [bF m (σ.put who 5 (cellL obj (ix x cs.length))),rb p m obj g cs.length,gb g cs]:=Does.ax fun S w0 w h=>by
 have s1:=zd (show Scope S w0 (w.alloc (.cells #[J 0,J 0,J 0] 64)).drew ([bF m (σ),rb p m obj g cs.length,gb g cs]++[box w.heap.size [J 0,J 0,J 0] 64])from(h.box [J 0,J 0,J 0] 64).drew);have zm:(w.alloc (.cells #[J 0,J 0,J 0] 64)).drew.cell? ⟨p,0,none⟩=some (ptr m):=(s1.out.row 1 rfl).cell rfl;have bx:=yJ (n:=x) c0;have Bx:=zd bx;clear h bx;have Y:=zd (EU cs _ k hk);clear hk
 go_enter func289,ntmps289
 go_wp2_with fail
 go_region_held3 (fun w'=>w'.cell? ⟨p,0,none⟩=some (ptr m)) (go_keep)
  (first
   |(go_at_call 268
     refine((lM hx cs.length c0 c8).fC (Hid.out (by assumption))).mono ?_
     rintro e wq ⟨rfl,sq⟩
     have zm:wq.cell? ⟨p,0,none⟩=some (ptr m):=(sq.row 1 rfl).cell rfl;have Hq:=zd sq
     clear sq)
   |(go_at_call 205
     refine((kE cs.length 16 (ix x cs.length:Nat)).fC (Hid.out (by assumption))).mono ?_
     rintro e wq ⟨rfl,sq⟩
     have zm:wq.cell? ⟨p,0,none⟩=some (ptr m):=(sq.row 1 rfl).cell rfl;have Hq:=zd sq
     clear sq)
   |(go_at_call 187
     refine((oO who (cellL obj (ix x cs.length)) hl).at0 (Hid.out (by assumption))).mono ?_
     rintro e wz ⟨rfl,sq⟩
     have zm:wz.cell? ⟨p,0,none⟩=some (ptr m):=(sq.row 1 rfl).cell rfl;have Hz:=zd sq
     clear sq))
 clear zm;obtain⟨B,hB⟩:∃ B,B=w.heap.size:=⟨_,rfl⟩
 have Z1:=zd (show Scope S w0 wz.drew ([bF m (σ.put who 5 (cellL obj (ix x cs.length))),rb p m obj g cs.length,gb g cs]++[box B [J 0,J 0,J 0] 64])from by rw[hB];exact Hz.out.drew)
 go_wp2_with fail
 rw[←hB];clear hB Hz s1;refine aP (by kernel_rfl) ?_;obtain⟨y0,y1,y2⟩:=Y.out;have h0:wz.drew.cell? ⟨p,2,none⟩=some (.slice (some ⟨g,0,none⟩) cs.length cs.length)∧wz.drew.cell? ⟨g,ix x cs.length*3,none⟩=some (J k.flow)∧wz.drew.cell? ⟨g,ix x cs.length*3+1,none⟩=some (J k.len)∧wz.drew.cell? ⟨g,ix x cs.length*3+2,none⟩=some (J k.mark):=⟨(Z1.out.row 1 rfl).cell rfl,(Z1.out.row 2 rfl).cell y0,(Z1.out.row 2 rfl).cell y1,(Z1.out.row 2 rfl).cell y2⟩
 have i0:(0:Int)≤((ix x cs.length:Nat):Int):=by omega
 have bx:=Bx.out;have i1:((ix x cs.length:Nat):Int)<(cs.length:Int):=by omega
 clear bx;clear y0 y1 y2;refine bu (S:=fun w'=>w'.cell? ⟨p,2,none⟩=some (.slice (some ⟨g,0,none⟩) cs.length cs.length)∧w'.cell? ⟨g,ix x cs.length*3,none⟩=some (J k.flow)∧w'.cell? ⟨g,ix x cs.length*3+1,none⟩=some (J k.len)∧w'.cell? ⟨g,ix x cs.length*3+2,none⟩=some (J k.mark)) (U:=[0,1,2,3,4,5,6,7,8]) _ _ _ _ ?_;refine aJ (i:=0) (v:=?_) rfl (by kernel_rfl) (fun _ _ _ h=>h) (Or.inl ⟨by rfl,?_⟩) h0 ?_
 rotate_left 1
 ·(intro w' hS;(try dsimp only at hS);(try simp only[ag,ah,aj]);go_simp;(try with_reducible rfl))
 try simp only[Act.put,ag,ah,aj,aF,aB,aC]
 refine aJ (i:=1) (v:=?_) rfl (by kernel_rfl) (fun _ _ _ h=>h) (Or.inl ⟨by rfl,?_⟩) h0 ?_
 rotate_left 1
 ·(intro w' hS;(try dsimp only at hS);(try simp only[ag,ah,aj]);go_simp;(try with_reducible rfl))
 try simp only[Act.put,ag,ah,aj,aF,aB,aC]
 refine aJ (i:=2) (v:=?_) rfl (by kernel_rfl) (fun _ _ _ h=>h) (Or.inl ⟨by rfl,?_⟩) h0 ?_
 rotate_left 1
 ·(intro w' hS;(try dsimp only at hS);(try simp only[ag,ah,aj]);go_simp;(try with_reducible rfl))
 try simp only[Act.put,ag,ah,aj,aF,aB,aC]
 refine aJ (i:=3) (v:=?_) rfl (by kernel_rfl) (fun _ _ _ h=>h) (Or.inl ⟨by rfl,?_⟩) h0 ?_
 rotate_left 1
 ·(intro w' hS;(try dsimp only at hS);(try simp only[ag,ah,aj]);go_simp;(try with_reducible rfl))
 try simp only[Act.put,ag,ah,aj,aF,aB,aC]
 refine aJ (i:=4) (v:=?_) rfl (by kernel_rfl) (fun _ _ _ h=>h) (Or.inl ⟨by rfl,?_⟩) h0 ?_
 rotate_left 1
 ·(intro w' hS;(try dsimp only at hS);(try simp only[ag,ah,aj]);go_simp;(try with_reducible rfl))
 try simp only[Act.put,ag,ah,aj,aF,aB,aC]
 refine aJ (i:=5) (v:=?_) rfl (by kernel_rfl) (fun _ _ _ h=>h) (Or.inl ⟨by rfl,?_⟩) h0 ?_
 rotate_left 1
 ·(intro w' hS;(try dsimp only at hS);(try simp only[ag,ah,aj]);go_simp;(try with_reducible rfl))
 try simp only[Act.put,ag,ah,aj,aF,aB,aC]
 refine aK 6 (by kernel_rfl) rfl (by rfl) fun K hK=>?_
 go_simp;refine((lM hx cs.length c0 c8).fC Z1.out).mono ?_
 rintro e wy ⟨rfl,sq⟩
 obtain⟨y0,y1,y2⟩:=Y.out;have h1:wy.cell? ⟨p,2,none⟩=some (.slice (some ⟨g,0,none⟩) cs.length cs.length)∧wy.cell? ⟨g,ix x cs.length*3,none⟩=some (J k.flow)∧wy.cell? ⟨g,ix x cs.length*3+1,none⟩=some (J k.len)∧wy.cell? ⟨g,ix x cs.length*3+2,none⟩=some (J k.mark):=⟨(sq.row 1 rfl).cell rfl,(sq.row 2 rfl).cell y0,(sq.row 2 rfl).cell y1,(sq.row 2 rfl).cell y2⟩
 have Z2:=zd sq;refine hK _ _ ⟨fun _=>h1,?_⟩;clear hK K sq h0 y0 y1 y2
 try simp only[Act.put,ag,ah,aj,aF,aB,aC]
 refine aJ (i:=7) (v:=?_) rfl (by kernel_rfl) (fun _ _ _ h=>h) (Or.inl ⟨by rfl,?_⟩) h1 ?_
 rotate_left 1
 ·(intro w' hS;(try dsimp only at hS);(try simp only[ag,ah,aj]);go_simp;(try with_reducible rfl))
 try simp only[Act.put,ag,ah,aj,aF,aB,aC]
 refine aJ (i:=8) (v:=?_) rfl (by kernel_rfl) (fun _ _ _ h=>h) (Or.inl ⟨by rfl,?_⟩) h1 ?_
 rotate_left 1
 ·(intro w' hS;(try dsimp only at hS);(try simp only[ag,ah,aj]);go_simp;(try with_reducible rfl))
 try simp only[Act.put,ag,ah,aj,aF,aB,aC]
 refine aX _ _ _ _ (fun j hj=>?_) ?_
 ·simp at hj;rcases hj with rfl|rfl|rfl|rfl|rfl|rfl|rfl|rfl|rfl<;>rfl
 have rg:=Z2.out.row (k:=B) (vs:=[J 0,J 0,J 0]) (t:=64) 3 rfl;have f0:=rg.free 0;have f1:=rg.free 1;have f2:=rg.free 2;obtain⟨x0,x1,x2⟩:=rg.cells3;have Rg:=zd rg;clear h1 rg;refine af 9 (by kernel_rfl) rfl (by rfl) fun K hK=>?_
 go_simp;refine hK _ _ ?_;clear hK K
 try simp only[Act.put,ag,ah,aj,aF,aB,aC]
 refine wpAny_done (by kernel_rfl) ?_ _;clear f0 f1 f2 x0 x1 x2
 go_wp2
 refine bodyPost_ret (results_cell_row rfl _ _ B 64 #[J k.flow,J k.len,J k.mark] (0,0) _ rfl (((Rg.out.set 0 (J k.flow)).set 1 (J k.len)).set 2 (J k.mark)) underlying64 rfl (by kernel_rfl)) rfl ?_;refine Ends.mk [box B [J k.flow,J k.len,J k.mark] 64] ?_;have q1:=Scope.au (As:=[bF m (σ.put who 5 (cellL obj (ix x cs.length))),rb p m obj g cs.length,gb g cs]) (Bs:=[]) Z2.out 0 (J k.flow);have q2:=Scope.au (As:=[bF m (σ.put who 5 (cellL obj (ix x cs.length))),rb p m obj g cs.length,gb g cs]) (Bs:=[]) q1 1 (J k.len);have q3:=Scope.au (As:=[bF m (σ.put who 5 (cellL obj (ix x cs.length))),rb p m obj g cs.length,gb g cs]) (Bs:=[]) q2 2 (J k.mark)
 exact q3
def MS.turn (σ:MS) (who obj:Int) (how:Nat) (x:Int):MS:=if tB how x=true then σ.swap who (bQ obj) x (tW how x)else σ
def MS.turned (σ:MS) (obj:Int) (how:Nat) (x:Int):Bool:=tB how x&&decide (σ.num (bQ obj)=x)
theorem FU (who x:Int) (hx:dC x) (ho:I64 obj) (hl:σ.log.length≤1000000):Does prog [bF m (σ),rb p m obj g cs.length,gb g cs] 233 #[ptr p,J who,Ju x,.func (.func 249) #[] #[]] (.bool (σ.turned obj 0 x)) [bF m (σ.turn who obj 0 x),rb p m obj g cs.length,gb g cs]:=Does.ax fun S w0 w h=>by
 have zm:w.cell? ⟨p,0,none⟩=some (ptr m):=(h.row 1 rfl).cell rfl;have hw:=um ho;have H0:=zd h.drew;have H00:=zd h;have Hx:=zd hx;have Hw:=zd hw;clear h hx hw
 cases hb:tB 0 x with
 |true=>
  rw[show σ.turned obj 0 x=decide (σ.num (bQ obj)=x) by simp[MS.turned,hb],show σ.turn who obj 0 x=σ.swap who (bQ obj) x (tW 0 x)from if_pos hb];have Hb:=zd hb;clear hb
  go_enter func233,ntmps233
  go_wp2_with fail
  refine(Bf Hx.out _).mono ?_
  rintro e w1 ⟨he,rfl⟩
  rw[show tR 0 x=.tuple #[Ju (tW 0 x),.bool true] by simp[tR,Hb.out]]at he;subst he
  go_wp2_with fail
  go_region_held3 (fun w'=>w'.cell? ⟨p,0,none⟩=some (ptr m)) (go_keep)
   (first
    |(go_at_call 205
      refine((kE cs.length 11 0).fC (Hid.out (by assumption))).mono ?_
      rintro e wq ⟨rfl,sq⟩
      have zm:wq.cell? ⟨p,0,none⟩=some (ptr m):=(sq.row 1 rfl).cell rfl;have Hq:=zd sq
      clear sq)
    |(go_at_call 168
      refine((mY who (bQ obj) Hw.out x (tW 0 x) (TB Hb.out) hl).at0 Hq.out).mono ?_
      rintro e wz ⟨rfl,sq⟩
      have zm:wz.cell? ⟨p,0,none⟩=some (ptr m):=(sq.row 1 rfl).cell rfl;have Hz:=zd sq
      clear sq))
  go_wp2
  go_ret
  exact Ends.mk [] (by simpa using Hz.out)
 |false=>
  rw[show σ.turned obj 0 x=false by simp[MS.turned,hb],show σ.turn who obj 0 x=σ from if_neg (by simp[hb])];have Hb:=zd hb;clear hb
  go_enter func233,ntmps233
  go_wp2_with fail
  refine(Bf Hx.out _).mono ?_
  rintro e w1 ⟨he,rfl⟩
  rw[show tR 0 x=.tuple #[Ju (tW 0 x),.bool false] by simp[tR,Hb.out]]at he;subst he
  go_wp2_with fail
  refine wp_region_any (by kernel_rfl) ?_;change wpAny _ _ _ _ _ _ _ (World.drew _);have h0:True:=trivial;refine bu (S:=fun _=>True) (U:=[0,1,2,3,4,5,6,7,8,9,10,11,12]) _ _ _ _ ?_;refine aJ (i:=0) (v:=?_) rfl (by kernel_rfl) (fun _ _ _ h=>h) (Or.inl ⟨by rfl,?_⟩) h0 ?_
  rotate_left 1
  ·(intro w' hS;(try dsimp only at hS);(try simp only[ag,ah,aj]);go_simp;(try with_reducible rfl))
  try simp only[Act.put,ag,ah,aj,aF,aB,aC]
  refine aJ (i:=1) (v:=?_) rfl (by kernel_rfl) (fun _ _ _ h=>h) (Or.inl ⟨by rfl,?_⟩) h0 ?_
  rotate_left 1
  ·(intro w' hS;(try dsimp only at hS);(try simp only[ag,ah,aj]);go_simp;(try with_reducible rfl))
  try simp only[Act.put,ag,ah,aj,aF,aB,aC]
  refine aJ (i:=2) (v:=undef) rfl (by kernel_rfl) (fun _ _ _ h=>h) (Or.inr ⟨by rfl,rfl⟩) h0 ?_
  try simp only[Act.put,ag,ah,aj,aF,aB,aC]
  refine aJ (i:=3) (v:=undef) rfl (by kernel_rfl) (fun _ _ _ h=>h) (Or.inr ⟨by rfl,rfl⟩) h0 ?_
  try simp only[Act.put,ag,ah,aj,aF,aB,aC]
  refine aJ (i:=4) (v:=undef) rfl (by kernel_rfl) (fun _ _ _ h=>h) (Or.inr ⟨by rfl,rfl⟩) h0 ?_
  try simp only[Act.put,ag,ah,aj,aF,aB,aC]
  refine aJ (i:=5) (v:=undef) rfl (by kernel_rfl) (fun _ _ _ h=>h) (Or.inr ⟨by rfl,rfl⟩) h0 ?_
  try simp only[Act.put,ag,ah,aj,aF,aB,aC]
  refine aJ (i:=6) (v:=undef) rfl (by kernel_rfl) (fun _ _ _ h=>h) (Or.inr ⟨by rfl,rfl⟩) h0 ?_
  try simp only[Act.put,ag,ah,aj,aF,aB,aC]
  refine aJ (i:=7) (v:=undef) rfl (by kernel_rfl) (fun _ _ _ h=>h) (Or.inr ⟨by rfl,rfl⟩) h0 ?_
  try simp only[Act.put,ag,ah,aj,aF,aB,aC]
  refine aJ (i:=8) (v:=undef) rfl (by kernel_rfl) (fun _ _ _ h=>h) (Or.inr ⟨by rfl,rfl⟩) h0 ?_
  try simp only[Act.put,ag,ah,aj,aF,aB,aC]
  refine aJ (i:=9) (v:=undef) rfl (by kernel_rfl) (fun _ _ _ h=>h) (Or.inr ⟨by rfl,rfl⟩) h0 ?_
  try simp only[Act.put,ag,ah,aj,aF,aB,aC]
  refine aJ (i:=10) (v:=undef) rfl (by kernel_rfl) (fun _ _ _ h=>h) (Or.inr ⟨by rfl,rfl⟩) h0 ?_
  try simp only[Act.put,ag,ah,aj,aF,aB,aC]
  refine aJ (i:=11) (v:=undef) rfl (by kernel_rfl) (fun _ _ _ h=>h) (Or.inr ⟨by rfl,rfl⟩) h0 ?_
  try simp only[Act.put,ag,ah,aj,aF,aB,aC]
  refine aJ (i:=12) (v:=?_) rfl (by kernel_rfl) (fun _ _ _ h=>h) (Or.inl ⟨by rfl,?_⟩) h0 ?_
  rotate_left 1
  ·(intro w' hS;(try dsimp only at hS);(try simp only[ag,ah,aj]);go_simp;(try with_reducible rfl))
  try simp only[Act.put,ag,ah,aj,aF,aB,aC]
  refine aX _ _ _ _ (fun j hj=>?_) ?_
  ·simp at hj;rcases hj with rfl|rfl|rfl|rfl|rfl|rfl|rfl|rfl|rfl|rfl|rfl|rfl|rfl<;>rfl
  refine af 13 (by kernel_rfl) rfl (by rfl) fun K hK=>?_
  go_simp;refine hK _ _ ?_;clear hK K
  try simp only[Act.put,ag,ah,aj,aF,aB,aC]
  refine wpAny_done (by kernel_rfl) ?_ _
  go_wp2
  go_ret
  exact Ends.mk [] (by simpa using H0.out)
theorem EF (who x:Int) (hx:dC x) (ho:I64 obj) (hl:σ.log.length≤1000000):Does prog [bF m (σ),rb p m obj g cs.length,gb g cs] 229 #[ptr p,J who,Ju x] (.bool (σ.turned obj 0 x)) [bF m (σ.turn who obj 0 x),rb p m obj g cs.length,gb g cs]:=Does.ax fun S w0 w h=>by
 have H0:=zd h;have Hx:=zd hx;clear h hx
 go_enter func229,ntmps229
 go_wp2_with fail
 refine((FU who x Hx.out ho hl).call (Bs:=[]) (by simpa using H0.out)).mono ?_
 rintro e w1 ⟨rfl,s1⟩
 have S1:=zd s1;clear s1
 go_wp2
 go_ret
 exact Ends.mk [] S1.out
theorem ET (who x:Int) (hx:dC x) (ho:I64 obj) (hl:σ.log.length≤1000000):Does prog [bF m (σ),rb p m obj g cs.length,gb g cs] 233 #[ptr p,J who,Ju x,.func (.func 299) #[] #[]] (.bool (σ.turned obj 1 x)) [bF m (σ.turn who obj 1 x),rb p m obj g cs.length,gb g cs]:=Does.ax fun S w0 w h=>by
 have zm:w.cell? ⟨p,0,none⟩=some (ptr m):=(h.row 1 rfl).cell rfl;have hw:=um ho;have H0:=zd h.drew;have H00:=zd h;have Hx:=zd hx;have Hw:=zd hw;clear h hx hw
 cases hb:tB 1 x with
 |true=>
  rw[show σ.turned obj 1 x=decide (σ.num (bQ obj)=x) by simp[MS.turned,hb],show σ.turn who obj 1 x=σ.swap who (bQ obj) x (tW 1 x)from if_pos hb];have Hb:=zd hb;clear hb
  go_enter func233,ntmps233
  go_wp2_with fail
  refine(Ak Hx.out _).mono ?_
  rintro e w1 ⟨he,rfl⟩
  rw[show tR 1 x=.tuple #[Ju (tW 1 x),.bool true] by simp[tR,Hb.out]]at he;subst he
  go_wp2_with fail
  go_region_held3 (fun w'=>w'.cell? ⟨p,0,none⟩=some (ptr m)) (go_keep)
   (first
    |(go_at_call 205
      refine((kE cs.length 11 0).fC (Hid.out (by assumption))).mono ?_
      rintro e wq ⟨rfl,sq⟩
      have zm:wq.cell? ⟨p,0,none⟩=some (ptr m):=(sq.row 1 rfl).cell rfl;have Hq:=zd sq
      clear sq)
    |(go_at_call 168
      refine((mY who (bQ obj) Hw.out x (tW 1 x) (TB Hb.out) hl).at0 Hq.out).mono ?_
      rintro e wz ⟨rfl,sq⟩
      have zm:wz.cell? ⟨p,0,none⟩=some (ptr m):=(sq.row 1 rfl).cell rfl;have Hz:=zd sq
      clear sq))
  go_wp2
  go_ret
  exact Ends.mk [] (by simpa using Hz.out)
 |false=>
  rw[show σ.turned obj 1 x=false by simp[MS.turned,hb],show σ.turn who obj 1 x=σ from if_neg (by simp[hb])];have Hb:=zd hb;clear hb
  go_enter func233,ntmps233
  go_wp2_with fail
  refine(Ak Hx.out _).mono ?_
  rintro e w1 ⟨he,rfl⟩
  rw[show tR 1 x=.tuple #[Ju (tW 1 x),.bool false] by simp[tR,Hb.out]]at he;subst he
  go_wp2_with fail
  refine wp_region_any (by kernel_rfl) ?_;change wpAny _ _ _ _ _ _ _ (World.drew _);have h0:True:=trivial;refine bu (S:=fun _=>True) (U:=[0,1,2,3,4,5,6,7,8,9,10,11,12]) _ _ _ _ ?_;refine aJ (i:=0) (v:=?_) rfl (by kernel_rfl) (fun _ _ _ h=>h) (Or.inl ⟨by rfl,?_⟩) h0 ?_
  rotate_left 1
  ·(intro w' hS;(try dsimp only at hS);(try simp only[ag,ah,aj]);go_simp;(try with_reducible rfl))
  try simp only[Act.put,ag,ah,aj,aF,aB,aC]
  refine aJ (i:=1) (v:=?_) rfl (by kernel_rfl) (fun _ _ _ h=>h) (Or.inl ⟨by rfl,?_⟩) h0 ?_
  rotate_left 1
  ·(intro w' hS;(try dsimp only at hS);(try simp only[ag,ah,aj]);go_simp;(try with_reducible rfl))
  try simp only[Act.put,ag,ah,aj,aF,aB,aC]
  refine aJ (i:=2) (v:=undef) rfl (by kernel_rfl) (fun _ _ _ h=>h) (Or.inr ⟨by rfl,rfl⟩) h0 ?_
  try simp only[Act.put,ag,ah,aj,aF,aB,aC]
  refine aJ (i:=3) (v:=undef) rfl (by kernel_rfl) (fun _ _ _ h=>h) (Or.inr ⟨by rfl,rfl⟩) h0 ?_
  try simp only[Act.put,ag,ah,aj,aF,aB,aC]
  refine aJ (i:=4) (v:=undef) rfl (by kernel_rfl) (fun _ _ _ h=>h) (Or.inr ⟨by rfl,rfl⟩) h0 ?_
  try simp only[Act.put,ag,ah,aj,aF,aB,aC]
  refine aJ (i:=5) (v:=undef) rfl (by kernel_rfl) (fun _ _ _ h=>h) (Or.inr ⟨by rfl,rfl⟩) h0 ?_
  try simp only[Act.put,ag,ah,aj,aF,aB,aC]
  refine aJ (i:=6) (v:=undef) rfl (by kernel_rfl) (fun _ _ _ h=>h) (Or.inr ⟨by rfl,rfl⟩) h0 ?_
  try simp only[Act.put,ag,ah,aj,aF,aB,aC]
  refine aJ (i:=7) (v:=undef) rfl (by kernel_rfl) (fun _ _ _ h=>h) (Or.inr ⟨by rfl,rfl⟩) h0 ?_
  try simp only[Act.put,ag,ah,aj,aF,aB,aC]
  refine aJ (i:=8) (v:=undef) rfl (by kernel_rfl) (fun _ _ _ h=>h) (Or.inr ⟨by rfl,rfl⟩) h0 ?_
  try simp only[Act.put,ag,ah,aj,aF,aB,aC]
  refine aJ (i:=9) (v:=undef) rfl (by kernel_rfl) (fun _ _ _ h=>h) (Or.inr ⟨by rfl,rfl⟩) h0 ?_
  try simp only[Act.put,ag,ah,aj,aF,aB,aC]
  refine aJ (i:=10) (v:=undef) rfl (by kernel_rfl) (fun _ _ _ h=>h) (Or.inr ⟨by rfl,rfl⟩) h0 ?_
  try simp only[Act.put,ag,ah,aj,aF,aB,aC]
  refine aJ (i:=11) (v:=undef) rfl (by kernel_rfl) (fun _ _ _ h=>h) (Or.inr ⟨by rfl,rfl⟩) h0 ?_
  try simp only[Act.put,ag,ah,aj,aF,aB,aC]
  refine aJ (i:=12) (v:=?_) rfl (by kernel_rfl) (fun _ _ _ h=>h) (Or.inl ⟨by rfl,?_⟩) h0 ?_
  rotate_left 1
  ·(intro w' hS;(try dsimp only at hS);(try simp only[ag,ah,aj]);go_simp;(try with_reducible rfl))
  try simp only[Act.put,ag,ah,aj,aF,aB,aC]
  refine aX _ _ _ _ (fun j hj=>?_) ?_
  ·simp at hj;rcases hj with rfl|rfl|rfl|rfl|rfl|rfl|rfl|rfl|rfl|rfl|rfl|rfl|rfl<;>rfl
  refine af 13 (by kernel_rfl) rfl (by rfl) fun K hK=>?_
  go_simp;refine hK _ _ ?_;clear hK K
  try simp only[Act.put,ag,ah,aj,aF,aB,aC]
  refine wpAny_done (by kernel_rfl) ?_ _
  go_wp2
  go_ret
  exact Ends.mk [] (by simpa using H0.out)
theorem Jk (who x:Int) (hx:dC x) (ho:I64 obj) (hl:σ.log.length≤1000000):Does prog [bF m (σ),rb p m obj g cs.length,gb g cs] 296 #[ptr p,J who,Ju x] (.bool (σ.turned obj 1 x)) [bF m (σ.turn who obj 1 x),rb p m obj g cs.length,gb g cs]:=Does.ax fun S w0 w h=>by
 have H0:=zd h;have Hx:=zd hx;clear h hx
 go_enter func296,ntmps296
 go_wp2_with fail
 refine((ET who x Hx.out ho hl).call (Bs:=[]) (by simpa using H0.out)).mono ?_
 rintro e w1 ⟨rfl,s1⟩
 have S1:=zd s1;clear s1
 go_wp2
 go_ret
 exact Ends.mk [] S1.out
theorem FZ (who x:Int) (hx:dC x) (ho:I64 obj) (hl:σ.log.length≤1000000):Does prog [bF m (σ),rb p m obj g cs.length,gb g cs] 233 #[ptr p,J who,Ju x,.func (.func 234) #[] #[]] (.bool (σ.turned obj 2 x)) [bF m (σ.turn who obj 2 x),rb p m obj g cs.length,gb g cs]:=Does.ax fun S w0 w h=>by
 have zm:w.cell? ⟨p,0,none⟩=some (ptr m):=(h.row 1 rfl).cell rfl;have hw:=um ho;have H0:=zd h.drew;have H00:=zd h;have Hx:=zd hx;have Hw:=zd hw;clear h hx hw
 cases hb:tB 2 x with
 |true=>
  rw[show σ.turned obj 2 x=decide (σ.num (bQ obj)=x) by simp[MS.turned,hb],show σ.turn who obj 2 x=σ.swap who (bQ obj) x (tW 2 x)from if_pos hb];have Hb:=zd hb;clear hb
  go_enter func233,ntmps233
  go_wp2_with fail
  refine(Ad Hx.out _).mono ?_
  rintro e w1 ⟨he,rfl⟩
  rw[show tR 2 x=.tuple #[Ju (tW 2 x),.bool true] by simp[tR,Hb.out]]at he;subst he
  go_wp2_with fail
  go_region_held3 (fun w'=>w'.cell? ⟨p,0,none⟩=some (ptr m)) (go_keep)
   (first
    |(go_at_call 205
      refine((kE cs.length 11 0).fC (Hid.out (by assumption))).mono ?_
      rintro e wq ⟨rfl,sq⟩
      have zm:wq.cell? ⟨p,0,none⟩=some (ptr m):=(sq.row 1 rfl).cell rfl;have Hq:=zd sq
      clear sq)
    |(go_at_call 168
      refine((mY who (bQ obj) Hw.out x (tW 2 x) (TB Hb.out) hl).at0 Hq.out).mono ?_
      rintro e wz ⟨rfl,sq⟩
      have zm:wz.cell? ⟨p,0,none⟩=some (ptr m):=(sq.row 1 rfl).cell rfl;have Hz:=zd sq
      clear sq))
  go_wp2
  go_ret
  exact Ends.mk [] (by simpa using Hz.out)
 |false=>
  rw[show σ.turned obj 2 x=false by simp[MS.turned,hb],show σ.turn who obj 2 x=σ from if_neg (by simp[hb])];have Hb:=zd hb;clear hb
  go_enter func233,ntmps233
  go_wp2_with fail
  refine(Ad Hx.out _).mono ?_
  rintro e w1 ⟨he,rfl⟩
  rw[show tR 2 x=.tuple #[Ju (tW 2 x),.bool false] by simp[tR,Hb.out]]at he;subst he
  go_wp2_with fail
  refine wp_region_any (by kernel_rfl) ?_;change wpAny _ _ _ _ _ _ _ (World.drew _);have h0:True:=trivial;refine bu (S:=fun _=>True) (U:=[0,1,2,3,4,5,6,7,8,9,10,11,12]) _ _ _ _ ?_;refine aJ (i:=0) (v:=?_) rfl (by kernel_rfl) (fun _ _ _ h=>h) (Or.inl ⟨by rfl,?_⟩) h0 ?_
  rotate_left 1
  ·(intro w' hS;(try dsimp only at hS);(try simp only[ag,ah,aj]);go_simp;(try with_reducible rfl))
  try simp only[Act.put,ag,ah,aj,aF,aB,aC]
  refine aJ (i:=1) (v:=?_) rfl (by kernel_rfl) (fun _ _ _ h=>h) (Or.inl ⟨by rfl,?_⟩) h0 ?_
  rotate_left 1
  ·(intro w' hS;(try dsimp only at hS);(try simp only[ag,ah,aj]);go_simp;(try with_reducible rfl))
  try simp only[Act.put,ag,ah,aj,aF,aB,aC]
  refine aJ (i:=2) (v:=undef) rfl (by kernel_rfl) (fun _ _ _ h=>h) (Or.inr ⟨by rfl,rfl⟩) h0 ?_
  try simp only[Act.put,ag,ah,aj,aF,aB,aC]
  refine aJ (i:=3) (v:=undef) rfl (by kernel_rfl) (fun _ _ _ h=>h) (Or.inr ⟨by rfl,rfl⟩) h0 ?_
  try simp only[Act.put,ag,ah,aj,aF,aB,aC]
  refine aJ (i:=4) (v:=undef) rfl (by kernel_rfl) (fun _ _ _ h=>h) (Or.inr ⟨by rfl,rfl⟩) h0 ?_
  try simp only[Act.put,ag,ah,aj,aF,aB,aC]
  refine aJ (i:=5) (v:=undef) rfl (by kernel_rfl) (fun _ _ _ h=>h) (Or.inr ⟨by rfl,rfl⟩) h0 ?_
  try simp only[Act.put,ag,ah,aj,aF,aB,aC]
  refine aJ (i:=6) (v:=undef) rfl (by kernel_rfl) (fun _ _ _ h=>h) (Or.inr ⟨by rfl,rfl⟩) h0 ?_
  try simp only[Act.put,ag,ah,aj,aF,aB,aC]
  refine aJ (i:=7) (v:=undef) rfl (by kernel_rfl) (fun _ _ _ h=>h) (Or.inr ⟨by rfl,rfl⟩) h0 ?_
  try simp only[Act.put,ag,ah,aj,aF,aB,aC]
  refine aJ (i:=8) (v:=undef) rfl (by kernel_rfl) (fun _ _ _ h=>h) (Or.inr ⟨by rfl,rfl⟩) h0 ?_
  try simp only[Act.put,ag,ah,aj,aF,aB,aC]
  refine aJ (i:=9) (v:=undef) rfl (by kernel_rfl) (fun _ _ _ h=>h) (Or.inr ⟨by rfl,rfl⟩) h0 ?_
  try simp only[Act.put,ag,ah,aj,aF,aB,aC]
  refine aJ (i:=10) (v:=undef) rfl (by kernel_rfl) (fun _ _ _ h=>h) (Or.inr ⟨by rfl,rfl⟩) h0 ?_
  try simp only[Act.put,ag,ah,aj,aF,aB,aC]
  refine aJ (i:=11) (v:=undef) rfl (by kernel_rfl) (fun _ _ _ h=>h) (Or.inr ⟨by rfl,rfl⟩) h0 ?_
  try simp only[Act.put,ag,ah,aj,aF,aB,aC]
  refine aJ (i:=12) (v:=?_) rfl (by kernel_rfl) (fun _ _ _ h=>h) (Or.inl ⟨by rfl,?_⟩) h0 ?_
  rotate_left 1
  ·(intro w' hS;(try dsimp only at hS);(try simp only[ag,ah,aj]);go_simp;(try with_reducible rfl))
  try simp only[Act.put,ag,ah,aj,aF,aB,aC]
  refine aX _ _ _ _ (fun j hj=>?_) ?_
  ·simp at hj;rcases hj with rfl|rfl|rfl|rfl|rfl|rfl|rfl|rfl|rfl|rfl|rfl|rfl|rfl<;>rfl
  refine af 13 (by kernel_rfl) rfl (by rfl) fun K hK=>?_
  go_simp;refine hK _ _ ?_;clear hK K
  try simp only[Act.put,ag,ah,aj,aF,aB,aC]
  refine wpAny_done (by kernel_rfl) ?_ _
  go_wp2
  go_ret
  exact Ends.mk [] (by simpa using H0.out)
theorem Kw (who x:Int) (hx:dC x) (ho:I64 obj) (hl:σ.log.length≤1000000):Does prog [bF m (σ),rb p m obj g cs.length,gb g cs] 212 #[ptr p,J who,Ju x] (.bool (σ.turned obj 2 x)) [bF m (σ.turn who obj 2 x),rb p m obj g cs.length,gb g cs]:=Does.ax fun S w0 w h=>by
 have H0:=zd h;have Hx:=zd hx;clear h hx
 go_enter func212,ntmps212
 go_wp2_with fail
 refine((FZ who x Hx.out ho hl).call (Bs:=[]) (by simpa using H0.out)).mono ?_
 rintro e w1 ⟨rfl,s1⟩
 have S1:=zd s1;clear s1
 go_wp2
 go_ret
 exact Ends.mk [] S1.out
end
end Go.Proofs.YtjnbbmgbmiggbaaGreatDoor
