/- Lemmas for TopTries' card: arguments of a law; the reference's memory; helpers of small numbers; packets; package post. -/
import Derived.OrdersHeld
import Derived.RegionTactic
import Derived.Test.YtjnbbmgbmiggbaaGreatDoorZ01
set_option linter.unusedSimpArgs false
set_option linter.unusedVariables false
set_option maxRecDepth 20000
set_option maxHeartbeats 4000000
namespace Go.Proofs.YtjnbbmgbmiggbaaGreatDoor
open Go Go.RowKit Go.Maps Go.ChangeShapes Go.WideShapes Go.ChangeAt Go.Proofs.Tryz
theorem own:ownKnob prog.godebug=none:=by kernel_rfl
theorem y5 {n:Int} (h:(Lit.int .i64 n).wf=true):I64 n:=bounds_i64 h
theorem UN {n:Int} (h:(Lit.int .u64 n).wf=true):dC n:=bounds_u64 h
section
variable {H:Type} {enc:TypeId×Value→H} {w:World} {base:Nat} {spare:Nat→Bool} {held:Bool} {v:Value} {d:DataW H} {p:List MemPlace} {b0:Nat}
theorem open_int (hv:Value.okWide prog w .any b0 3 v) (h:DataW.Trod enc prog w base spare held 3 v d p):∃ n,I64 n∧v=J n:=by
 obtain⟨x,rfl,rfl,rfl,wx⟩:=ChangeShapes.open_int underlying3 hv h
 exact⟨x,y5 wx,rfl⟩
end
open Go Go.Proofs.Tryz
section
variable {P:Program} {ops:Array Oper} {Q:Exit→Act→World→Prop} {md:Region.Mode} {S:World→Prop} {U:List Nat}
def iH (P:Program) (md:Region.Mode) (ops:Array Oper) (Q:Exit→Act→World→Prop) (S:World→Prop) (U:List Nat):Nat→Array Bool→Act→World→Prop
 |0,listed,a,w=>Region.ready md ops listed=[]∧Q .normal a w
 |fuel+1,listed,a,w=>
  (Region.ready md ops listed=[]→Q .normal a w)∧
  ∀ i∈Region.ready md ops listed,wpOp P ops Q i (fun a' w'=>(U.contains i=true→S w')∧iH P md ops Q S U fuel (listed.setIfInBounds i true) a' w') a w
theorem bu:∀ (fuel:Nat) (listed:Array Bool) (a:Act) (w:World),iH P md ops Q S U fuel listed a w→wpAny P md ops Q fuel listed a w
 |0,_,_,_,h=>h
 |fuel+1,_,_,_,h=>⟨h.1,fun i hi=>wpOp_mono (fun a' w' h'=>bu fuel _ a' w' h'.2) (h.2 i hi)⟩
def behind (md:Region.Mode) (ops:Array Oper) (listed:Array Bool) (U:List Nat) (i:Nat):Bool:=
 (List.range ops.size).all fun j=>listed.getD j true||U.contains j||match ops[j]? with
  |some o=>o.after.any fun e=>Region.binds md e&&e.on==i
  |none=>true
theorem EP {i j:Nat} {o:Oper} {listed:Array Bool} (h:behind md ops listed U i=true) (hl:listed.getD j true=false) (hj:ops[j]? =some o) (hn:U.contains j=false):∃ e∈o.after,Region.binds md e=true∧e.on=i:=by
 unfold behind at h;rw[List.all_eq_true]at h
 have:=h j (List.mem_range.2 (Array.getElem?_eq_some_iff.1 hj).1)
 rw[hn,hj,hl]at this;simp only[Bool.false_or]at this;obtain⟨e,he,hb⟩:=Array.any_eq_true'.1 this;simp only[Bool.and_eq_true,beq_iff_eq]at hb
 exact⟨e,he,hb⟩
theorem CQ {i:Nat} {oi:Oper} {v:Value} {S':World→Prop} {l0:Array Bool} (hi:ops[i]? =some oi) (hback:∀ w,S' w→U.contains i=true→S w)
  (hSS:∀ (j:Nat) (oj:Oper) (w:World),l0.getD j true=false→ops[j]? =some oj→(∀ e∈oj.after,Region.binds md e=true→e.on≠i)→(U.contains j=true→S w)→S' w) (hsel:∀ (j:Nat) (o:Oper) cs b,ops[j]? =some o→o.op≠ .select cs b)
  (hQ:∀ c a w,Q (.panic c) (a.put oi.dst v) w→Q (.panic c) a w):
  ∀ (fuel:Nat) (listed:Array Bool) (a:Act) (w:World),(∀ j,listed.getD j true=false→l0.getD j true=false)→
   (∀ j oj,ops[j]? =some oj→j≠i→listed.getD j true=false→(∀ e∈oj.after,Region.binds md e=true→e.on≠i)→oi.apart ops oj=true)→
   i∈Region.ready md ops listed→YieldsIf P ops S' oi v a→S' w→
   iH P md ops Q S U fuel (listed.setIfInBounds i true) (a.put oi.dst v) w→iH P md ops Q S U (fuel+1) listed a w:=by
 intro fuel
 induction fuel with
 |zero=>
  intro listed a w _ _ hr hy hS H
  refine⟨fun h=>(by rw[h]at hr;cases hr),fun j hj=>?_⟩
  by_cases hji:j=i
  ·subst hji
   exact hy.wpOp hi hS ⟨hback _ hS,H⟩
  ·have hm:=ready_mono hj hji
   rw[H.1]at hm
   cases hm
 |succ fuel ih=>
  intro listed a w hl0 hfree hr hy hS H
  refine⟨fun h=>(by rw[h]at hr;cases hr),fun j hj=>?_⟩
  by_cases hji:j=i
  ·subst hji
   exact hy.wpOp hi hS ⟨hback _ hS,H⟩
  ·have hstep:=H.2 j (ready_mono hj hji)
   obtain⟨hjun,oj,hoj,hall⟩:=mem_ready.1 hj;have hiun:=(mem_ready.1 hr).1;have hnot:∀ e∈oj.after,Region.binds md e=true→e.on≠i:=fun e he hb heq=>by
    have h1:=hall e he hb;rw[heq]at h1
    rcases Nat.lt_or_ge i listed.size with h'|h'
    ·simp[h']at hiun h1;rw[hiun]at h1;cases h1
    ·simp[Array.getElem?_eq_none h']at h1
   have hl1:∀ k,(listed.setIfInBounds j true).getD k true=false→l0.getD k true=false:=fun k hk=>by
    by_cases e:j=k
    ·subst e;exact hl0 j hjun
    ·rw[getD_set_ne true e]at hk;exact hl0 k hk
   have hput:=wpOp_putIf hoj (hfree j oj hoj hji hjun hnot) (fun cs b=>hsel i oi cs b hi) (fun cs b=>hsel j oj cs b hoj) hQ hy hstep;have hfree':∀ k ok,ops[k]? =some ok→k≠i→(listed.setIfInBounds j true).getD k true=false→(∀ e∈ok.after,Region.binds md e=true→e.on≠i)→oi.apart ops ok=true:=fun k ok hk hki hun hno=>by
    refine hfree k ok hk hki ?_ hno
    by_cases hjk:j=k
    ·subst hjk;exact hjun
    ·rw[getD_set_ne true hjk]at hun;exact hun
   refine wpOp_mono (fun a' w' h3=>⟨h3.2.1,ih (listed.setIfInBounds j true) a' w' hl1 hfree' (ready_mono hr (Ne.symm hji)) h3.1 (hSS j oj w' (hl0 j hjun) hoj hnot h3.2.1) ?_⟩) hput;rw[Array.setIfInBounds_comm _ _ hji]
   exact h3.2.2
theorem EG {i:Nat} {oi:Oper} {v:Value} {fuel:Nat} {listed:Array Bool} {a:Act} {w:World} (hi:ops[i]? =some oi)
  (hs:Region.noSelect ops=true) (hf:Region.free md ops listed i=true) (hU:behind md ops listed U i=true) (hr:(Region.ready md ops listed).contains i=true)
  (hQ:∀ c a w,Q (.panic c) (a.put oi.dst v) w→Q (.panic c) a w) (hy:YieldsIf P ops S oi v a) (hS:S w)
  (h:iH P md ops Q S U fuel (listed.setIfInBounds i true) (a.put oi.dst v) w):iH P md ops Q S U (fuel+1) listed a w:=
 CQ (S':=S) (l0:=listed) hi (fun _ h _=>h) (fun j oj w hl hj hnot hk=>by
  cases hc:U.contains j with
  |true=>exact hk hc
  |false=>
   obtain⟨e,he,hb,heq⟩:=EP hU hl hj hc
   exact absurd heq (hnot e he hb)) (Region.noSelect_spec hs) hQ fuel listed a w (fun _ h=>h) (Region.free_spec hi hf) (by simpa using hr) hy hS h
theorem aX:∀ (fuel:Nat) (listed:Array Bool) (a:Act) (w:World),(∀ j,U.contains j=true→listed.getD j true=true)→wpAny P md ops Q fuel listed a w→iH P md ops Q S U fuel listed a w
 |0,_,_,_,_,h=>h
 |fuel+1,listed,_,_,hu,h=>⟨h.1,fun i hi=>wpOp_mono (fun a' w' h'=>by
   have hno:U.contains i=true→False:=fun hc=>by
    have:=(mem_ready.1 hi).1
    rw[hu i hc]at this
    cases this
   refine⟨fun hc=>(hno hc).elim,aX fuel _ a' w' (fun j hj=>?_) h'⟩
   by_cases e:i=j
   ·subst e;exact(hno hj).elim
   ·rw[getD_set_ne true e];exact hu j hj) (h.2 i hi)⟩
theorem dS {rs:List Nat} {fuel:Nat} {listed:Array Bool} {a:Act} {w:World} (hr:Region.ready md ops listed=rs) (hne:rs≠ [])
  (h:∀ i∈rs,wpOp P ops Q i (fun a' w'=>(U.contains i=true→S w')∧iH P md ops Q S U fuel (listed.setIfInBounds i true) a' w') a w):iH P md ops Q S U (fuel+1) listed a w:=
 ⟨fun h0=>absurd (hr▸h0) hne,hr▸h⟩
theorem yg {i:Nat} {o:Oper} {K:Act→World→Prop} {a:Act} {w:World} (ho:ops[i]? =some o) (hg:o.guard=none)
  (h:∀ K':Act→World→Prop,(∀ a w,K a w→K' a w)→Oper.wp P o a w K' Q):wpOp P ops Q i K a w:=
 wpOp_step ho (fun K' hK=>by rw[if_pos (by simp[Region.wanted,hg])];exact h K' hK)
theorem cO {i:Nat} {o:Oper} {K:Act→World→Prop} {a:Act} {w:World} (ho:ops[i]? =some o) (hg:Region.wanted o (yielded ops a.tmps)=true)
  (h:∀ K':Act→World→Prop,(∀ a w,K a w→K' a w)→Oper.wp P o a w K' Q):wpOp P ops Q i K a w:=
 wpOp_step ho (fun K' hK=>by rw[if_pos hg];exact h K' hK)
theorem aK (i:Nat) {o:Oper} {fuel:Nat} {listed:Array Bool} {a:Act} {w:World} (hr:Region.ready md ops listed=[i]) (ho:ops[i]? =some o) (hg:Region.wanted o (yielded ops a.tmps)=true)
  (h:∀ K':Act→World→Prop,(∀ a' w',(U.contains i=true→S w')∧iH P md ops Q S U fuel (listed.setIfInBounds i true) a' w'→K' a' w')→Oper.wp P o a w K' Q):iH P md ops Q S U (fuel+1) listed a w:=
 dS hr (by simp) (fun j hj=>by
  obtain rfl:j=i:=by simpa using hj
  exact cO ho hg h)
theorem af (i:Nat) {o:Oper} {fuel:Nat} {listed:Array Bool} {a:Act} {w:World} (hr:Region.ready md ops listed=[i]) (ho:ops[i]? =some o) (hg:Region.wanted o (yielded ops a.tmps)=true)
  (h:∀ K':Act→World→Prop,(∀ a' w',wpAny P md ops Q fuel (listed.setIfInBounds i true) a' w'→K' a' w')→Oper.wp P o a w K' Q):wpAny P md ops Q (fuel+1) listed a w:=
 wpAny_all hr (by simp) (fun j hj=>by
  obtain rfl:j=i:=by simpa using hj
  exact cO ho hg h)
def U7 (md:Region.Mode) (ops:Array Oper) (listed:Array Bool) (U:List Nat) (i:Nat):Bool:=
 Region.noSelect ops&&Region.free md ops listed i&&behind md ops listed U i&&(Region.ready md ops listed).contains i
theorem aJ {i:Nat} {oi:Oper} {v:Value} {fuel:Nat} {listed:Array Bool} {a:Act} {w:World} (hi:ops[i]? =some oi) (hc:U7 md ops listed U i=true)
  (hQ:∀ c a w,Q (.panic c) (a.put oi.dst v) w→Q (.panic c) a w) (hy:YieldsIf P ops S oi v a) (hS:S w)
  (h:iH P md ops Q S U fuel (listed.setIfInBounds i true) (a.put oi.dst v) w):iH P md ops Q S U (fuel+1) listed a w:=by
 unfold U7 at hc;simp only[Bool.and_eq_true]at hc
 exact EG hi hc.1.1.1 hc.1.1.2 hc.1.2 hc.2 hQ hy hS h
theorem aP {id:Nat} {a:Act} {w:World} (hm:P.follows .mixedOrders=true)
  (h:wpAny P .any ops Q ops.size (Array.replicate ops.size false) a w.drew):(Code.region id ops true).wp P Q a w:=wp_region_any hm h
end
open Go Go.RowKit Go.Maps Go.Proofs.Tryz
def keys (kv:List (Lc×Int)):List Value:=kv.flatMap fun x=>x.1.cells
section
variable {w w':World} {p:Nat} {fp:List Nat} {log:List Ev} {kv:List (Lc×Int)}
end
def Ig (kv:List (Lc×Int)) (l:Lc) (k:Nat):Prop:=∀ (j:Nat) (x:Lc×Int),j<k→kv[j]? =some x→x.1≠l
theorem Ig.step {kv:List (Lc×Int)} {l:Lc} {k:Nat} {x:Lc×Int} (h:Ig kv l k) (hx:kv[k]? =some x) (hne:x.1≠l):Ig kv l (k+1):=by
 intro j y hj hy
 rcases Nat.lt_or_ge j k with h1|h1
 ·exact h j y h1 hy
 ·obtain rfl:j=k:=by omega
  rw[hx]at hy
  cases hy
  exact hne
def SS (p B:Nat) (vA vV:Value) (l:Lc) (w:World):Prop:=
 w.cell? ⟨p,0,none⟩=some vA∧w.cell? ⟨p,1,none⟩=some vV∧w.cell? ⟨B,0,none⟩=some (J l.k)∧w.cell? ⟨B,1,none⟩=some (J l.a)∧w.cell? ⟨B,2,none⟩=some (J l.b)
theorem SS.iZ {p B:Nat} {vA vV:Value} {l:Lc} {w w':World} {S:List Nat} (h:SS p B vA vV l w) (c:dE S w w') (hp:p∉S) (hB:B∉S):SS p B vA vV l w':=by
 obtain⟨a,b,d,e,f⟩:=h
 exact⟨c.cell a hp,c.cell b hp,c.cell d hB,c.cell e hB,c.cell f hB⟩
theorem SS.alloc {p B:Nat} {vA vV:Value} {l:Lc} {w:World} (h:SS p B vA vV l w) (o:Obj):SS p B vA vV l (w.alloc o):=h.iZ (S:=[]) ((dE.refl _ _).alloc o) (by simp) (by simp)
theorem pz {w:World} {k:Nat} {vs:List Value} {t:TypeId} (h:Row w k vs t):∀ j u,vs[j]? =some u→w.cell? ((⟨k,0,none⟩:Addr).add j)=some u:=fun j u hu=>by
 have e:(⟨k,0,none⟩:Addr).add j=⟨k,j,none⟩:=by unfold Addr.add;split<;>simp_all
 rw[e]
 exact h.cell hu
def look:List (Lc×Int)→Lc→Int
 | [],_=>0
 |x::kv,l=>if x.1=l then x.2 else look kv l
section
variable {S:List Nat} {w0 w:World} {Bs:List HA} {p:Nat} {log:List Ev} {kv:List (Lc×Int)}
end
section
variable {p n:Nat} {σ:MS}
end
structure Us where
 k:Int
 who:Int
 obj:Int
 i:Int
 n:Int
 m:Int
 flow:Int
 len:Int
 mark:Int
def Us.wf (u:Us):Prop:=I64 u.k∧I64 u.who∧I64 u.obj∧I64 u.i∧dC u.n∧dC u.m∧I64 u.flow∧I64 u.len∧I64 u.mark
def Us.cells (u:Us):List Value:=[J u.k,J u.who,J u.obj,J u.i,Ju u.n,Ju u.m,J u.flow,J u.len,J u.mark]
@[reducible] def Us.val (u:Us):Value:=.agg #[J u.k,J u.who,J u.obj,J u.i,Ju u.n,Ju u.m,J u.flow,J u.len,J u.mark]
def few (n:Int):Int:=if n % 13=12 then n else n % 7
def mod (v n:Int):Int:=v % 18446744073709551616 % n
def Us.by (u:Us):Int:=if mod u.who 29=28 then u.who else mod u.who 4
def Us.thing (u:Us):Int:=if mod u.obj 29=28 then u.obj else mod u.obj 4
def Us.place (u:Us):Int:=if mod u.i 29=28 then u.i else mod u.i 3
def Us.loc (u:Us):Lc:=⟨1+mod u.obj 3,u.place,mod u.len 2⟩
theorem mod_lt (v:Int) {n:Int} (h:0<n):0≤mod v n∧mod v n<n:=⟨Int.emod_nonneg _ (by omega),Int.emod_lt_of_pos _ h⟩
theorem gW {v n:Int} (hn:0<n) (hm:n≤4000000) (w:World):Calls prog 7 #[J v,J n] w fun e w'=>e=.returned (J (mod v n))∧w'=w:=by
 have hb:=mod_lt v hn
 go_enter func7,ntmps7
 go_wp2
 go_ret
 refine⟨jg ?_,rfl⟩;have e:(IntKind.u64.wrap v).tmod n=mod v n:=by
  rw[IntKind.wrap_u64,Int.tmod_eq_emod_of_nonneg (by omega)]
  rfl
 rw[e];unfold wrap64
 omega
section
variable {u:Us}
end
section
variable {P:Program} {S:List Nat} {w0 w w':World} {A A' X:HA} {As As' Bs Js:List HA} {f:FuncId} {args:Array Value} {r:Value}
theorem Scope.gU (h:Scope S w0 w (aG As::Bs)):Scope S w0 w (As++Bs):=by
 obtain⟨c,fp,⟨f,g,h1,h2,h3,h4⟩,h5⟩:=h;obtain⟨fp',d1,d2⟩:=nR h1 h2 h3;refine⟨c,fp',d1,fun k hk=>h5 k ?_⟩;rw[h4]
 exact List.mem_append.2 ((d2 k).1 hk)
theorem Scope.shut1 (h:Scope S w0 w (As++Bs)):Scope S w0 w (aG As::Bs):=by
 obtain⟨c,fp,h1,h2⟩:=h;obtain⟨f,g,a1,a2,a3,a4⟩:=jL h1
 exact⟨c,f++g,⟨f,g,a1,a2,a3,rfl⟩,fun k hk=>h2 k ((a4 k).2 (List.mem_append.1 hk))⟩
def Ends (S:List Nat) (w0:World) (r:Value) (As':List HA) (e:Ending) (w':World):Prop:=e=.returned r∧∃ Js,Scope S w0 w' (As'++Js)
theorem Ends.mk (Js:List HA) (h:Scope S w0 w' (As'++Js)):Ends S w0 r As' (.returned r) w':=⟨rfl,Js,h⟩
theorem Ends.mk' {r':Value} (he:r=r') (Js:List HA) (h:Scope S w0 w' (As'++Js)):Ends S w0 r' As' (.returned r) w':=by subst he;exact⟨rfl,Js,h⟩
theorem Does.pack (d:∀ (S:List Nat) (w0 w:World),Scope S w0 w As→Calls P f args w (Ends S w0 r As')):Does P [aG As] f args r [aG As']:=fun w fp h=>
 (d fp w w (Scope.start (bZ h))).mono fun _ _ ⟨he,_,hs⟩=>⟨he,After.intro1 (A:=aG As') hs.drop.after⟩
theorem Does.ax (d:∀ (S:List Nat) (w0 w:World),Scope S w0 w As→Calls P f args w (Ends S w0 r As')):Does P As f args r As':=fun w fp h=>
 (d fp w w (Scope.start h)).mono fun _ _ ⟨he,_,hs⟩=>⟨he,hs.drop.after⟩
theorem Does.more (hm:∀ w fp,A'.holds w fp→X.holds w fp) (d:Does P [A] f args r [A']):Does P [A] f args r [X]:=fun w fp h=>
 (d w fp h).mono fun _ _ ⟨he,fp',h1,h2⟩=>⟨he,fp',dh (hm _ _ (bZ h1)),h2⟩
theorem Does.at0 (d:Does P [A] f args r [A']) (h:Scope S w0 w (A::Bs)):Calls P f args w fun e w'=>e=.returned r∧Scope S w0 w' (A'::Bs):=Does.call (As:=[A]) (As':=[A']) (Bs:=Bs) d h
theorem Scope.swap2 (h:Scope S w0 w (A::X::Bs)):Scope S w0 w (X::A::Bs):=Scope.swap (As:=[A]) (Bs:=[X]) (Cs:=Bs) h
theorem Does.fC (d:Does P [A] f args r [A']) (h:Scope S w0 w (X::A::Bs)):Calls P f args w fun e w'=>e=.returned r∧Scope S w0 w' (X::A'::Bs):=
 (d.at0 h.swap2).mono fun _ _ ⟨he,hs⟩=>⟨he,hs.swap2⟩
theorem Scope.sW (h:Scope S w0 w As) {k:Nat} {vs:List Value} {t:TypeId} (hi:Go.Proofs.YtjnbbmgbmiggbaaGreatDoor.box k vs t∈As):Row w k vs t:=by
 obtain⟨i,hi⟩:=List.mem_iff_getElem?.1 hi
 exact h.row i hi
def Pure (P:Program) (f:FuncId) (args:Array Value) (r:Value):Prop:=∀ w,Calls P f args w fun e w'=>e=.returned r∧dE [] w w'
theorem Pure.at (d:Pure P f args r) (h:Scope S w0 w As):Calls P f args w fun e w'=>e=.returned r∧Scope S w0 w' As:=(d w).mono fun _ _ ⟨he,hc⟩=>⟨he,h.quiet hc⟩
end
open Go Go.RowKit Go.Maps Go.ChangeShapes Go.WideShapes Go.ChangeAt Go.Proofs.Tryz
def OX (w:World) (v:Value) (L:List Us):Prop:=(∀ u,u∈L→u.wf)∧Vl w v 9 (L.map Us.cells)
theorem OX.form {w:World} {v:Value} {L:List Us} (h:OX w v L):∃ oa c,v=.slice oa L.length c∧L.length≤c∧c≤maxLen∧
  ∀ k u,L[k]? =some u→u.wf∧∃ g off,oa=some ⟨g,off,none⟩∧∀ w',dE [] w w'→
   (At w' g (off+k*9) (J u.k)∧At w' g (off+k*9+1) (J u.who)∧At w' g (off+k*9+2) (J u.obj)∧
    At w' g (off+k*9+3) (J u.i)∧At w' g (off+k*9+4) (Ju u.n)∧At w' g (off+k*9+5) (Ju u.m)∧
    At w' g (off+k*9+6) (J u.flow)∧At w' g (off+k*9+7) (J u.len)∧At w' g (off+k*9+8) (J u.mark)):=by
 obtain⟨hw,oa,c,hv,h1,h2,h3⟩:=h;refine⟨oa,c,by simpa using hv,by simpa using h1,h2,fun k u hk=>⟨hw u (List.mem_of_getElem? hk),?_⟩⟩;obtain⟨g,off,h4,h5,h6⟩:=h3 (by intro e;simp at e;subst e;simp at hk);refine⟨g,off,h4,fun w' hc=>?_⟩;have h7:=h6 k u.cells (by simp[hk])
 exact⟨hc.cell (h7 0 _ rfl) (by simp),hc.cell (h7 1 _ rfl) (by simp),hc.cell (h7 2 _ rfl) (by simp),hc.cell (h7 3 _ rfl) (by simp),hc.cell (h7 4 _ rfl) (by simp),hc.cell (h7 5 _ rfl) (by simp),hc.cell (h7 6 _ rfl) (by simp),hc.cell (h7 7 _ rfl) (by simp),hc.cell (h7 8 _ rfl) (by simp)⟩
section
variable {H:Type} {enc:TypeId×Value→H} {w:World} {base:Nat} {spare:Nat→Bool} {held:Bool} {v:Value} {d:DataW H} {p:List MemPlace} {b0:Nat}
end
def Pv (k:IntKind) (w:World) (v:Value) (L:List Int):Prop:=Vl w v 1 (L.map fun n=>[.int k n])
theorem Pv.form {k:IntKind} {w:World} {v:Value} {L:List Int} (h:Pv k w v L):∃ oa c,v=.slice oa L.length c∧L.length≤c∧c≤maxLen∧
  ∀ j n,L[j]? =some n→∃ g off,oa=some ⟨g,off,none⟩∧∀ w',dE [] w w'→At w' g (off+j) (.int k n):=by
 obtain⟨oa,c,hv,h1,h2,h3⟩:=h;refine⟨oa,c,by simpa using hv,by simpa using h1,h2,fun j n hj=>?_⟩;obtain⟨g,off,h4,h5,h6⟩:=h3 (by intro e;simp at e;subst e;simp at hj);refine⟨g,off,h4,fun w' hc=>?_⟩;have h7:=h6 j [.int k n] (by simp[hj]) 0 _ rfl;rw[show off+j*1+0=off+j from by omega]at h7
 exact hc.cell h7 (by simp)
section
variable {H:Type} {enc:TypeId×Value→H} {w:World} {base:Nat} {spare:Nat→Bool} {held:Bool} {v:Value} {d:DataW H} {p:List MemPlace} {b0:Nat}
end
theorem pR.iZ {w w':World} {v:Value} {L:List Ev} (h:pR w v L) (c:dE [] w w'):pR w' v L:=by
 rcases h with h|⟨g,off,k,h1,h2⟩
 ·exact .inl h
 ·exact .inr ⟨g,off,k,h1,fun j u hu=>c.cell (h2 j u hu) (by simp)⟩
section
variable {S:List Nat} {w0 w:World} {X:HA} {As Bs:List HA}
end
open Go Go.RowKit Go.Maps Go.Proofs.Tryz
theorem Scope.au {S:List Nat} {w0 w:World} {As Bs:List HA} {k:Nat} {vs:List Value} {t:TypeId} (h:Scope S w0 w (As++([Go.Proofs.YtjnbbmgbmiggbaaGreatDoor.box k vs t]++Bs))) (j:Nat) (v:Value):
  Scope S w0 (w.setCell ⟨k,j,none⟩ v) (As++([Go.Proofs.YtjnbbmgbmiggbaaGreatDoor.box k (vs.set j v) t]++Bs)):=by
 obtain⟨f,hf,hd⟩:=h.swap.does;obtain⟨hr,rfl⟩:=bZ hf;have h3:Scope S w0 _ ([Go.Proofs.YtjnbbmgbmiggbaaGreatDoor.box k (vs.set j v) t]++(As++Bs)):=hd [Go.Proofs.YtjnbbmgbmiggbaaGreatDoor.box k (vs.set j v) t] _ (After.intro1 ⟨[k],⟨hr.set j v,rfl⟩,(dE.refl [k] w).setCell (.inl (by simp)) _,Own.refl _ _⟩)
 exact h3.swap
structure Pk where
 flow:Int
 len:Int
 mark:Int
 deriving DecidableEq
def Pk.cells (p:Pk):List Value:=[J p.flow,J p.len,J p.mark]
@[reducible] def Pk.val (p:Pk):Value:=.agg #[J p.flow,J p.len,J p.mark]
def Pk.zero:Pk:=⟨0,0,0⟩
def iU (l:List Pk):List Value:=l.flatMap Pk.cells
theorem Gv (l:List Pk):(iU l).length=l.length*3:=by
 unfold iU
 induction l with
 |nil=>rfl
 |cons e l ih=>simp[Pk.cells,ih];omega
theorem SV (L:List Pk):∀ u∈iU L,u.oneCell'=true:=by
 intro u hu
 unfold iU at hu;obtain⟨e,_,he⟩:=List.mem_flatMap.1 hu
 simp[Pk.cells]at he
 rcases he with rfl|rfl|rfl<;>rfl
theorem Ky:(prog.info? 64).map (fun i=>(i.zero,i.size,i.bytes))=some (some (.agg #[J 0,J 0,J 0]),3,24):=by kernel_rfl
def vk (w:World) (v:Value) (L:List Pk):Prop:=
 (v=nS∧L=[])∨∃ ad c,v=.slice (some ad) L.length c∧(L≠ []→ad.spot=none)∧∀ j u,(iU L)[j]? =some u→w.cell? (ad.add j)=some u
def lJ (L:List Pk):Prop:=24*L.length≤140737488351232
theorem vk.iZ {w w':World} {v:Value} {L:List Pk} (h:vk w v L) (c:dE [] w w'):vk w' v L:=by
 rcases h with h|⟨ad,k,h1,h0,h2⟩
 ·exact .inl h
 ·exact .inr ⟨ad,k,h1,h0,fun j u hu=>c.cell (h2 j u hu) (by simp)⟩
theorem add0 (g j:Nat):(⟨g,0,none⟩:Addr).add j=⟨g,j,none⟩:=by unfold Addr.add;split<;>simp_all
theorem vk.jk {w:World} {v:Value} {L:List Pk} (h:w.ownsRow 0 64 3 v L.length (iU L)):vk w v L:=by
 rcases ownsRow_form h with⟨rfl,h0⟩|⟨g,cap,rfl,_⟩
 ·exact .inl ⟨rfl,List.eq_nil_of_length_eq_zero h0⟩
 ·exact .inr ⟨⟨g,0,none⟩,cap,rfl,fun _=>rfl,fun j u hu=>by rw[add0];exact dw h rfl hu⟩
theorem vk.form {w:World} {v:Value} {L:List Pk} (h:vk w v L):∃ oa c,v=.slice oa L.length c:=by
 rcases h with⟨rfl,rfl⟩|⟨ad,c,rfl,_⟩
 ·exact⟨none,0,rfl⟩
 ·exact⟨some ad,c,rfl⟩
set_option maxHeartbeats 400000 in
theorem qN {w:World} {v:Value} {L:List Pk} (h:vk w v L) (hn:lJ L):
  Calls prog 28 #[v] w (yM w 64 3 L.length (iU L)):=by
 obtain⟨i0,hi,hz0,hz1,hz2⟩:=info_parts Ky;unfold lJ at hn
 rcases h with⟨rfl,rfl⟩|⟨ad,cap,rfl,_,hc⟩
 ·have e0:=fun w=>Lib.run_eql_slice_nil (P:=prog) w 58 64 none 0 0 0 0 underlying58
  have H:w.ownsRow 0 64 3 (nS) 0 []:=⟨rfl,.inl ⟨rfl,rfl⟩⟩
  have H':=zd H;clear H
  go_enter func28,ntmps28
  go_wp2
  go_ret
  exact⟨_,rfl,H'.out,dE.refl _ _,fun k hk=>by simp[Value.ownBlock]at hk⟩
 ·have e0:=fun w=>Lib.run_eql_slice_nil (P:=prog) w 58 64 (some ad) L.length cap 0 0 underlying58
  have hcell:∀ j u,(iU L)[j]? =some u→(w.alloc (.cells #[] 64)).cell? (ad.add j)=some u:=fun j u hu=>((dE.refl [] w).alloc _).cell (hc j u hu) (by simp)
  have hown:(w.alloc (.cells #[] 64)).ownsRow 0 64 3 (.slice (some ⟨w.heap.size,0,none⟩) 0 0) 0 []:=World.ownsRow_made w #[] 0 (by omega) (by unfold maxLen;omega) (by simp);have Hl:=zd (Gv L);have Hcell:=zd hcell;have H1:=zd (SV L);have Hown:=zd hown;clear hc hcell hown;generalize iU L=xs at *;generalize L.length=n at *
  go_enter func28,ntmps28
  go_wp2_with (at_builtin;go_must (refine wpList_append_own_at _ rfl (.tmp 5) (.tmp 6) 58 rfl 0 64 i0 _ 3 24 underlying58 hi hz0 hz1 hz2 rfl (by decide) (.slice (some ⟨w.heap.size,0,none⟩) 0 0) 0 [] rfl Hown.out ad n cap xs rfl Hl.out Hcell.out H1.out (by unfold maxLen;omega) (by omega) (by omega) ?_);intro v' w1 hown' hgrow hnil hat)
  go_ret
  refine⟨v',rfl,by simpa using hown',((dE.refl _ _).alloc _).grown hgrow (fun k hk=>?_),fun k hk=>?_⟩
  ·simp[Value.ownBlock]at hk;subst hk;exact .inr (Nat.le_refl _)
  ·rcases hat with h|h
   ·rw[h]at hk;simp[Value.ownBlock]at hk;omega
   ·rw[h]at hk;simp at hk;omega
structure Rt where
 e:Int
 pk:List Pk
 n:Int
 v:Int
 deriving DecidableEq
def Rt.zero:Rt:=⟨0,[],0,0⟩
@[reducible] def Rt.val (r:Rt) (s:Value):Value:=.agg #[J r.e,s,J r.n,Ju r.v]
open Go Go.RowKit Go.Maps Go.ChangeShapes Go.WideShapes Go.ChangeAt Go.Proofs.Tryz
section
variable {H:Type} {enc:TypeId×Value→H} {P:Program} {w:World} {base:Nat} {spare:Nat→Bool} {held:Bool} {cs:List Value} {x:DataW H×List MemPlace} {fuel:Nat}
theorem TV {t:TypeId} {fs:Array Field} (hs:P.underlying t=some (.struct fs)) (h:DataW.trod enc P w base spare held fuel t cs=some x):
  ∃ n xs,cs.length=P.cellsOf t∧x.1=.agg (xs.map (·.1))∧fs.toList.mapM (fun f=>DataW.trod enc P w base spare held n f.type ((cs.drop f.offset).take (P.cellsOf f.type)))=some xs:=by
 cases fuel with
 |zero=>simp[DataW.trod]at h
 |succ n=>
  unfold DataW.trod at h;simp only[hs]at h
  split at h
  ·rename_i hl
   simp only[Option.map_eq_some_iff]at h;obtain⟨xs,h1,rfl⟩:=h
   exact⟨n,xs,hl,rfl,h1⟩
  ·cases h
def Ua (P:Program) (t:TypeId) (d:DataW H):Prop:=(d.weights P t).all (· ≤reachBytes)=true
theorem weightsAll_mem {e:TypeId}:∀ {l:List (DataW H)} {d:DataW H},(DataW.weightsAll P e l).all (· ≤reachBytes)=true→d∈l→Ua P e d:=by
 intro l
 induction l with
 |nil=>intro d _ hd;cases hd
 |cons y l ih=>
  intro d h hd
  unfold DataW.weightsAll at h;rw[List.all_append,Bool.and_eq_true]at h
  rcases List.mem_cons.1 hd with rfl|hd
  ·exact h.1
  ·exact ih h.2 hd
theorem qi:∀ {ts:List TypeId} {ds:List (DataW H)} {t:TypeId} {d:DataW H},(DataW.weightsEach P ts ds).all (· ≤reachBytes)=true→∀ i:Nat,ts[i]? =some t→ds[i]? =some d→Ua P t d:=by
 intro ts
 induction ts with
 |nil=>intro ds t d _ i ht;simp at ht
 |cons t0 ts ih=>
  intro ds t d h i ht hd
  cases ds with
  |nil=>simp at hd
  |cons d0 ds=>
   unfold DataW.weightsEach at h;rw[List.all_append,Bool.and_eq_true]at h
   cases i with
   |zero=>simp at ht hd;subst ht;subst hd;exact h.1
   |succ i=>exact ih h.2 i (by simpa using ht) (by simpa using hd)
theorem uh {t e:TypeId} {α:Type} (z:α) (R:List Value→α→Prop) (size:Nat) {v:Value} {d:DataW H} {p:List MemPlace} (ht:P.underlying t=some (.slice e)) (hce:P.cellsOf e=size) (hpos:0<size)
  (hR:∀ n cs y,DataW.trod enc P w base spare held n e cs=some y→Ua P e y.1→cs.length=size∧∃ a,R cs a)
  (hv:∃ a len cap,v=.slice a len cap) (h:DataW.Trod enc P w base spare held t v d p) (hw:Ua P t d):∃ (L:List α) (oa:Option Addr) (c:Nat),v=.slice oa L.length c∧L.length≤c∧c≤maxLen∧L.length*P.bytesOf e≤reachBytes∧(v=nS∨∃ ad,oa=some ad)∧
   ∀ k a,L[k]? =some a→∃ cs g off,R cs a∧oa=some ⟨g,off,none⟩∧g<w.heap.size∧∀ j u,cs[j]? =some u→At w g (off+k*size+j) u:=by
 obtain⟨a0,ln0,cap0,rfl⟩:=hv;obtain⟨fuel,hx⟩:=h;have hcs:(Value.slice a0 ln0 cap0).cells.toList=[.slice a0 ln0 cap0]:=rfl;rw[hcs]at hx
 rcases Deep.open_slice ht hx with⟨h1,_⟩|⟨a,len,cap,m,nn,D,Pl,h1,hb,hl,hm,hmm,hxd,hel⟩
 ·simp at h1
  obtain⟨rfl,rfl,rfl⟩:=h1
  exact⟨[],none,0,by simp,by simp,by simp[maxLen],by simp,.inl rfl,by simp⟩
 ·simp at h1
  obtain⟨rfl,rfl,rfl⟩:=h1;have hlm:ln0≤m:=by rw[hmm];split<;>omega
  have hd:d=.slice ((List.range ln0).map D) ((List.range (m - ln0)).map fun j=>D (ln0+j)):=congrArg Prod.fst hxd;subst hd;unfold Ua DataW.weights at hw;simp only[ht,List.all_cons,List.all_append,Bool.and_eq_true,decide_eq_true_eq,List.length_map,List.length_range]at hw;obtain⟨hw0,hw1,_⟩:=hw;have hbytes:ln0*P.bytesOf e≤reachBytes:=Nat.le_trans (Nat.mul_le_mul_right _ (Nat.le_add_right _ _)) hw0;have hex:∀ i,i<ln0→∃ q:List Value×α,q.1.length=size∧R q.1 q.2∧∀ j u,q.1[j]? =some u→w.cell? ((a.add (i*size)).add j)=some u:=by
   intro i hi
   obtain⟨cs',hc,ht'⟩:=hel i (by omega);rw[hce]at hc;obtain⟨g0,y,g1⟩:=hR nn cs' _ ht' (weightsAll_mem hw1 (List.mem_map.2 ⟨i,by simpa using hi,rfl⟩))
   exact⟨(cs',y),g0,g1,fun j u hu=>(Oq hc).2 j u hu⟩
  haveI:Inhabited α:=⟨z⟩
  obtain⟨N,hN⟩:=Deep.choose_lt hex;refine⟨(List.range ln0).map (fun i=>(N i).2),some a,cap0,by simp,by simpa using hl,hm,by simpa using hbytes,.inr ⟨a,rfl⟩,fun k y hy=>?_⟩;simp only[List.getElem?_map,Option.map_eq_some_iff]at hy;obtain⟨i,hi',rfl⟩:=hy;have hi2:k<ln0∧i=k:=by
   rw[List.getElem?_eq_some_iff]at hi';obtain⟨hlt,he⟩:=hi'
   exact⟨by simpa using hlt,by simpa using he.symm⟩
  obtain⟨hi2,rfl⟩:=hi2;obtain⟨q0,q1,q2⟩:=hN 0 (by omega);obtain⟨u0,hu0⟩:∃ u,(N 0).1[0]? =some u:=⟨_,List.getElem?_eq_getElem (by omega)⟩
  have c0:=q2 0 u0 hu0;have e0:(a.add (0*size)).add 0=a:=by simp[Addr.add]
  rw[e0]at c0;have hspot:a.spot=none:=by
   unfold World.cell? at c0
   split at c0
   ·split at c0
    ·cases c0
    ·rename_i hs;simpa using hs
   ·cases c0
  refine⟨(N i).1,a.block,a.off,(hN i hi2).2.1,by obtain⟨b,o,s⟩:=a;simp only at hspot;subst hspot;rfl,World.block_lt_of_cell? w a c0,fun j u hu=>?_⟩
  have:=(hN i hi2).2.2 j u hu
  rw[addr_add a hspot,addr_add _ rfl]at this
  exact this
end
section
variable {H:Type} {enc:TypeId×Value→H} {w:World} {base:Nat} {spare:Nat→Bool} {held:Bool} {v:Value} {d:DataW H} {p:List MemPlace} {b0:Nat} {cs:List Value} {x:DataW H×List MemPlace} {fuel:Nat}
structure Cl where
 op:Int
 flow:Int
 a:Int
 b:Int
 deriving DecidableEq
def Cl.zero:Cl:=⟨0,0,0,0⟩
def Cl.cells (c:Cl):List Value:=[J c.op,J c.flow,J c.a,J c.b]
@[reducible] def Cl.val (c:Cl):Value:=.agg #[J c.op,J c.flow,J c.a,J c.b]
theorem QG:flatK prog 3 49=some [.i64,.i64,.i64,.i64]:=by kernel_rfl
theorem O0 {t:TypeId} {k:IntKind} (ht:prog.underlying t=some (.int k)) (h:DataW.trod enc prog w base spare held fuel t cs=some x):∃ n,cs=[.int k n]∧(Lit.int k n).wf=true:=by
 cases fuel with
 |zero=>simp[DataW.trod]at h
 |succ n=>
  unfold DataW.trod at h;simp only[ht]at h
  split at h<;>simp_all
theorem Jq {t e:TypeId} (ht:prog.underlying t=some (.slice e)) (h:DataW.trod enc prog w base spare held fuel t cs=some x):∃ a len cap,cs=[.slice a len cap]:=by
 rcases Deep.open_slice ht h with⟨h1,_⟩|⟨a,len,cap,m,nn,D,Pl,h1,_⟩
 ·exact⟨_,_,_,h1⟩
 ·exact⟨_,_,_,h1⟩
def Rt.ok (r:Rt):Prop:=I64 r.n∧dC r.v∧lJ r.pk
end
def Su (w:World) (v:Value) (L:List Cl):Prop:=∃ oa c,v=.slice oa L.length c∧L.length≤c∧c≤maxLen∧
  ∀ k a,L[k]? =some a→∃ g off,oa=some ⟨g,off,none⟩∧∀ w',dE [] w w'→
   (w'.cell? ⟨g,off+k*4,none⟩=some (J a.op)∧w'.cell? ⟨g,off+k*4+1,none⟩=some (J a.flow)∧w'.cell? ⟨g,off+k*4+2,none⟩=some (J a.a)∧w'.cell? ⟨g,off+k*4+3,none⟩=some (J a.b))
section
variable {H:Type} {enc:TypeId×Value→H} {w:World} {base:Nat} {spare:Nat→Bool} {held:Bool} {v:Value} {d:DataW H} {p:List MemPlace} {b0:Nat} {cs:List Value} {x:DataW H×List MemPlace} {fuel:Nat}
end
open Go Go.RowKit Go.Maps Go.Proofs.Tryz
theorem vG:Keyed prog 3:=int_keyed underlying3
theorem keyOf_int {n:Int} (h:I64 n):∃ l,keyOf prog 3 (J n)=some l:=⟨_,keyOf_int_mk underlying3 (BB h)⟩
theorem QK (w:World):(zeroValue 49).run prog w=.ok Cl.zero.val w:=by kernel_rfl
theorem JH (w:World):(zeroValue 288).run prog w=.ok (Rt.zero.val (nS)) w:=by kernel_rfl
def lastOf {α:Type} (z:α) (l:List (Int×α)) (o:Int):α:=l.foldl (fun a x=>if x.1=o then x.2 else a) z
theorem qU {α:Type} (z:α) (l:List (Int×α)) (k:Int) (c:α) (o:Int):lastOf z (l++[(k,c)]) o=if k=o then c else lastOf z l o:=by simp[lastOf]
def iE (b:Nat) (KC:List (Int×Cl)):HA where
 holds w fp:=(∃ n f,dD prog 3 w b n f∧∀ o,I64 o→(f (J o)).getD Cl.zero.val=(lastOf Cl.zero KC o).val)∧fp=[b]
 lt:=by rintro w fp ⟨⟨n,f,h,_⟩,rfl⟩ k hk;simp at hk;subst hk;exact h.lt
 iZ:=by rintro w w' S fp ⟨⟨n,f,h,h2⟩,rfl⟩ c hn;exact⟨⟨n,f,h.iZ c (hn _ (by simp)),h2⟩,rfl⟩
def ik (b:Nat) (F:Int→Value) (JR:List (Int×Rt)):HA where
 holds w fp:=b∈fp∧(∀ k,k∈fp→k<w.heap.size)∧(∃ n f,dD prog 3 w b n f∧∀ o,I64 o→(f (J o)).getD (Rt.zero.val (nS))=(lastOf Rt.zero JR o).val (F o))∧
  (∀ o,I64 o→lJ (lastOf Rt.zero JR o).pk∧w.ownsRow 0 64 3 (F o) (lastOf Rt.zero JR o).pk.length (iU (lastOf Rt.zero JR o).pk)∧∀ k,(F o).ownBlock=some k→k∈fp)
 lt:=by rintro w fp ⟨_,h,_⟩ k hk;exact h k hk
 iZ:=by
  rintro w w' S fp ⟨h1,h2,⟨n,f,h3,h4⟩,h5⟩ c hn
  refine⟨h1,fun k hk=>Nat.lt_of_lt_of_le (h2 k hk) c.size,⟨n,f,h3.iZ c (hn _ h1),h4⟩,fun o ho=>?_⟩;obtain⟨q1,q2,q3⟩:=h5 o ho
  exact⟨q1,gY q2 c (fun k hk=>hn k (q3 k hk)),q3⟩
def uk {α:Type} (F:α→HA):HA where
 holds w fp:=∃ a,(F a).holds w fp
 lt:=fun⟨a,h⟩=>(F a).lt h
 iZ:=fun⟨a,h⟩ c hn=>⟨a,(F a).iZ h c hn⟩
theorem Scope.xq {α:Type} {F:α→HA} {S:List Nat} {w0 w:World} {Bs:List HA} (h:Scope S w0 w (uk F::Bs)):∃ a,Scope S w0 w (F a::Bs):=by
 obtain⟨c,fp,⟨f,g,⟨a,h1⟩,h2,h3,h4⟩,h5⟩:=h
 exact⟨a,c,fp,⟨f,g,h1,h2,h3,h4⟩,h5⟩
theorem Scope.tX {α:Type} {F:α→HA} (a:α) {S:List Nat} {w0 w:World} {Bs:List HA} (h:Scope S w0 w (F a::Bs)):Scope S w0 w (uk F::Bs):=by
 obtain⟨c,fp,⟨f,g,h1,h2,h3,h4⟩,h5⟩:=h
 exact⟨c,fp,⟨f,g,⟨a,h1⟩,h2,h3,h4⟩,h5⟩
theorem Does.ex {P:Program} {α:Type} {F G:α→HA} {f:FuncId} {args:Array Value} {r:Value} (d:∀ a,Does P [F a] f args r [G a]):Does P [uk F] f args r [uk G]:=fun w fp h=>by
 obtain⟨a,h1⟩:=bZ h
 exact(d a w fp (dh h1)).mono fun _ _ ⟨he,fp',h2,h3⟩=>⟨he,fp',dh (A:=uk G) ⟨a,bZ h2⟩,h3⟩
@[reducible] def fA (p m ba br:Nat) (W:Int) (σ:MS) (KC:List (Int×Cl)) (JR:List (Int×Rt)) (F:Int→Value):List HA:=[bF m σ,box p [ptr m,J W,.map (some ba),.map (some br)] 130,iE ba KC,ik br F JR]
@[reducible] def jS (p m ba br:Nat) (W:Int) (σ:MS) (KC:List (Int×Cl)) (JR:List (Int×Rt)):HA:=uk fun F=>aG (fA p m ba br W σ KC JR F)
@[reducible] def qo (j:Int):Lc:=⟨6,j,0⟩
@[reducible] def oH (j:Int):Lc:=⟨7,j,0⟩
@[reducible] def fP (j:Int):Lc:=⟨5,j,0⟩
@[reducible] def iG:Lc:=⟨1,0,0⟩
theorem lH {k:Int} (h0:0≤k) (h1:k≤1000):I64 k:=by unfold I64;omega
theorem BN {j:Int} (h:I64 j):(fP j).wf:=⟨(show I64 5 from lH (by omega) (by omega)),h,(show I64 0 from lH (by omega) (by omega))⟩
theorem FK:iG.wf:=⟨(show I64 1 from lH (by omega) (by omega)),(show I64 0 from lH (by omega) (by omega)),(show I64 0 from lH (by omega) (by omega))⟩
theorem lu (k a:Int):Pure prog 142 #[J k,J a] (⟨k,a,0⟩:Lc).val:=fun w=>by
 go_enter func142,ntmps142
 go_wp2
 exact bodyPost_ret (results_cell_row rfl _ _ w.heap.size 40 #[J k,J a,J 0] (0,0) _ rfl (Row.new w [J k,J a,J 0] 40) underlying40 rfl (by kernel_rfl)) rfl ⟨rfl,(dE.refl _ _).alloc _⟩
theorem qh {P:Program} {w:World} {o:Oper} {a:Act} {K:Act→World→Prop} {Q:Exit→Act→World→Prop} (m x v:Operand) (t:TypeId) (hop:o.op=Op.mapUpdate t m x v)
  (k e:TypeId) (K0:Keyed P k) (ht:P.underlying t=some (.map k e)) (b n:Nat) (f:Value→Option Value)
  (hm:a.eval m=.map (some b)) (hown:dD P k w b n f) (key val:Value) (kl:Lit) (hx:a.eval x=key) (hv:a.eval v=val) (hkey:keyOf P k key=some kl)
  (h:∀ w',dD P k w' b (n+1) (fun x=>open Classical in if x=key then some val else f x)→dE [b] w w'→K (a.put o.dst undef) w'):o.wp P a w K Q:=by
 obtain⟨w',hrun,r1,r2⟩:=hown.update (val:=val) K0 ht hkey;unfold Oper.wp execOp
 simp[hop,hm,hx,hv,hrun,Result.andThen]
 exact h w' r1 r2
section
variable {S:List Nat} {w0 w:World} {A X Y:HA} {Bs:List HA} {b:Nat} {KC:List (Int×Cl)} {JR:List (Int×Rt)} {F:Int→Value}
theorem Scope.SY (h:Scope S w0 w (A::X::iE b KC::Bs)) {j:Int} (hj:I64 j):(Instr.lookup 127 (.map (some b)) (J j) false).run prog w=.ok (lastOf Cl.zero KC j).val w:=by
 obtain⟨f,⟨⟨n,g,h1,h2⟩,_⟩,_⟩:=h.get 2 rfl;obtain⟨l,hl⟩:=keyOf_int hj;have h4:=h1.lookup (t:=127) vG underlying127 (QK w) hl;rw[h2 j hj]at h4
 exact h4
theorem Scope.RG (h:Scope S w0 w (A::X::iE b KC::Bs)) {j:Int} (hj:I64 j) (c:Cl):∃ n g,dD prog 3 w b n g∧
  ∀ w3,dD prog 3 w3 b (n+1) (fun x=>open Classical in if x=J j then some c.val else g x)→dE [b] w w3→Scope S w0 w3 (A::X::iE b (KC++[(j,c)])::Bs):=by
 have h':Scope S w0 w ([A,X]++([iE b KC]++Bs)):=h;obtain⟨f,hf,hd⟩:=h'.swap.does;obtain⟨⟨n,g,h1,h2⟩,rfl⟩:=bZ hf;refine⟨n,g,h1,fun w3 m3 c3=>?_⟩;have h4:Scope S w0 w3 ([iE b (KC++[(j,c)])]++([A,X]++Bs)):=hd _ _ (After.intro1 (A:=iE b (KC++[(j,c)])) ⟨[b],⟨⟨n+1,_,m3,fun o hO=>?_⟩,rfl⟩,c3,Own.refl _ _⟩)
 ·exact h4.swap
 ·rw[qU]
  by_cases e:j=o
  ·subst e;simp
  ·have ne:(J o)≠J j:=fun h=>e (by simp at h;exact h.symm)
   simp only[if_neg e,if_neg ne]
   exact h2 o hO
theorem Scope.TC (h:Scope S w0 w (A::X::Y::ik b F JR::Bs)) {j:Int} (hj:I64 j):(Instr.lookup 128 (.map (some b)) (J j) false).run prog w=.ok ((lastOf Rt.zero JR j).val (F j)) w:=by
 obtain⟨f,⟨_,_,⟨n,g,h1,h2⟩,_⟩,_⟩:=h.get 3 rfl;obtain⟨l,hl⟩:=keyOf_int hj;have h4:=h1.lookup (t:=128) vG underlying128 (JH w) hl;rw[h2 j hj]at h4
 exact h4
theorem Scope.UH (h:Scope S w0 w (A::X::Y::ik b F JR::Bs)) {j:Int} (hj:I64 j):vk w (F j) (lastOf Rt.zero JR j).pk∧lJ (lastOf Rt.zero JR j).pk:=by
 obtain⟨f,⟨_,_,_,h2⟩,_⟩:=h.get 3 rfl;obtain⟨q1,q2,_⟩:=h2 j hj
 exact⟨vk.jk q2,q1⟩
theorem Scope.SB (h:Scope S w0 w (A::X::Y::ik b F JR::Bs)) {j:Int} (hj:I64 j) {w1:World} {s:Value} (r:Rt) (hc:dE [] w w1) (ho:w1.ownsRow 0 64 3 s r.pk.length (iU r.pk)) (hn:∀ k,s.ownBlock=some k→w.heap.size≤k) (hf:lJ r.pk):
  ∃ n g,dD prog 3 w1 b n g∧
  ∀ w3,dD prog 3 w3 b (n+1) (fun x=>open Classical in if x=J j then some (r.val s)else g x)→dE [b] w1 w3→Scope S w0 w3 (A::X::Y::ik b (fun o=>if j=o then s else F o) (JR++[(j,r)])::Bs):=by
 have h':Scope S w0 w ([A,X,Y]++([ik b F JR]++Bs)):=h;obtain⟨fp,hfp,hd⟩:=h'.swap.does;obtain⟨h1,h2,⟨n,g,h3,h4⟩,h5⟩:=bZ hfp;have m1:dD prog 3 w1 b n g:=h3.iZ hc (by simp);have nb:∀ k,s.ownBlock=some k→k≠b:=fun k hk e=>by
  have q1:=hn k hk;have q2:=h2 b h1
  omega
 refine⟨n,g,m1,fun w3 m3 c3=>?_⟩;have h6:Scope S w0 w3 ([ik b (fun o=>if j=o then s else F o) (JR++[(j,r)])]++([A,X,Y]++Bs)):=hd _ _ (After.intro1 (A:=ik b (fun o=>if j=o then s else F o) (JR++[(j,r)])) ⟨fp++s.ownBlock.toList,⟨by simp[h1],?_,⟨n+1,_,m3,fun o hO=>?_⟩,fun o hO=>?_⟩,((dE.refl fp w).quiet hc).trans c3 (fun i hi=>.inl (by simp at hi;subst hi;exact h1)),fun k hk=>?_⟩)
 ·exact h6.swap
 ·intro k hk
  rcases List.mem_append.1 hk with hk|hk
  ·exact Nat.lt_of_lt_of_le (h2 k hk) (Nat.le_trans hc.size c3.size)
  ·exact Nat.lt_of_lt_of_le (ho.lt k (by simpa using hk)).2 c3.size
 ·rw[qU]
  by_cases e:j=o
  ·subst e;simp
  ·have ne:(J o)≠J j:=fun h=>e (by simp at h;exact h.symm)
   simp only[if_neg e,if_neg ne]
   exact h4 o hO
 ·rw[qU]
  by_cases e:j=o
  ·simp only[if_pos e]
   exact⟨hf,gY ho c3 (fun k hk=>by simpa using nb k hk),fun k hk=>by simp[hk]⟩
  ·simp only[if_neg e]
   obtain⟨q1,q2,q3⟩:=h5 o hO;refine⟨q1,gY (gY q2 hc (by simp)) c3 (fun k hk=>?_),fun k hk=>by simp[q3 k hk]⟩
   have:=kH q2 h3
   simp
   rintro rfl
   exact this hk
 ·rcases List.mem_append.1 hk with hk|hk
  ·exact .inl hk
  ·exact .inr (hn k (by simpa using hk))
end
section
variable {p m ba br:Nat} {W:Int} {σ:MS} {KC:List (Int×Cl)} {JR:List (Int×Rt)} {F:Int→Value}
set_option maxHeartbeats 1000000 in
theorem Eu (who:Int) (hw':I64 who) (hl:σ.log.length≤1000000):
  Does prog [aG [bF m σ,box p [ptr m,J W,.map (some ba),.map (some br)] 130,iE ba KC,ik br F JR]] 143 #[ptr p,J who] (.tuple #[]) [aG [bF m ((σ.put who 2 (fP who)).set (fP who) 1),box p [ptr m,J W,.map (some ba),.map (some br)] 130,iE ba KC,ik br F JR]]:=Does.pack fun S w0 w h=>by
 have c0:w.cell? ⟨p,0,none⟩=some (ptr m):=(h.row 1 rfl).cell rfl;have H0:=zd h;clear h;have hw:=BN hw';have Hw:=zd hw;clear hw
 go_enter func143,ntmps143
 go_wp2_with fail
 go_region_held3 (fun w'=>w'.cell? ⟨p,0,none⟩=some (ptr m))
  (go_keep)
  (first
   |(go_at_call 142
     refine((lu 5 who).at H0.out.drew).mono ?_
     rintro e w1 ⟨rfl,s1⟩
     have g1:w1.cell? ⟨p,0,none⟩=some (ptr m):=(s1.row 1 rfl).cell rfl;have H1:=zd s1
     clear s1)
   |(go_at_call 175
     refine((jA who (fP who) Hw.out 1 (by unfold dC;omega) hl).at0 H1.out).mono ?_
     rintro e wz ⟨rfl,sz⟩
     have gz:wz.cell? ⟨p,0,none⟩=some (ptr m):=(sz.row 1 rfl).cell rfl;have Hz:=zd sz
     clear sz))
 go_wp2
 go_end0
 exact Ends.mk [] (by simpa using Hz.out)
theorem IC (who:Int) (hw':I64 who) (hl:σ.log.length≤1000000):Does prog [jS p m ba br W σ KC JR] 143 #[ptr p,J who] (.tuple #[]) [jS p m ba br W ((σ.put who 2 (fP who)).set (fP who) 1) KC JR]:=
 Does.ex (F:=fun F=>aG (fA p m ba br W σ KC JR F)) (G:=fun F=>aG (fA p m ba br W ((σ.put who 2 (fP who)).set (fP who) 1) KC JR F)) fun _=>Eu who hw' hl
set_option maxHeartbeats 1000000 in
theorem CS (who j:Int) (hj:I64 j) (hl:σ.log.length≤1000000):
  Does prog [aG [bF m σ,box p [ptr m,J W,.map (some ba),.map (some br)] 130,iE ba KC,ik br F JR]] 256 #[ptr p,J who,J j] (.tuple #[]) [aG [bF m ((σ.put who 2 (fP j)).set (fP j) 2),box p [ptr m,J W,.map (some ba),.map (some br)] 130,iE ba KC,ik br F JR]]:=Does.pack fun S w0 w h=>by
 have c0:w.cell? ⟨p,0,none⟩=some (ptr m):=(h.row 1 rfl).cell rfl;have H0:=zd h;clear h;have hw:=BN hj;have Hw:=zd hw;clear hw
 go_enter func256,ntmps256
 go_wp2_with fail
 go_region_held3 (fun w'=>w'.cell? ⟨p,0,none⟩=some (ptr m))
  (go_keep)
  (first
   |(go_at_call 142
     refine((lu 5 j).at H0.out.drew).mono ?_
     rintro e w1 ⟨rfl,s1⟩
     have g1:w1.cell? ⟨p,0,none⟩=some (ptr m):=(s1.row 1 rfl).cell rfl;have H1:=zd s1
     clear s1)
   |(go_at_call 175
     refine((jA who (fP j) Hw.out 2 (by unfold dC;omega) hl).at0 H1.out).mono ?_
     rintro e wz ⟨rfl,sz⟩
     have gz:wz.cell? ⟨p,0,none⟩=some (ptr m):=(sz.row 1 rfl).cell rfl;have Hz:=zd sz
     clear sz))
 go_wp2
 go_end0
 exact Ends.mk [] (by simpa using Hz.out)
theorem F6 (who j:Int) (hj:I64 j) (hl:σ.log.length≤1000000):Does prog [jS p m ba br W σ KC JR] 256 #[ptr p,J who,J j] (.tuple #[]) [jS p m ba br W ((σ.put who 2 (fP j)).set (fP j) 2) KC JR]:=
 Does.ex (F:=fun F=>aG (fA p m ba br W σ KC JR F)) (G:=fun F=>aG (fA p m ba br W ((σ.put who 2 (fP j)).set (fP j) 2) KC JR F)) fun _=>CS who j hj hl
set_option maxHeartbeats 1000000 in
theorem H9 (who:Int) (hl:σ.log.length≤1000000):
  Does prog [aG [bF m σ,box p [ptr m,J W,.map (some ba),.map (some br)] 130,iE ba KC,ik br F JR]] 176 #[ptr p,J who] (.bool (decide (σ.num iG=0))) [aG [bF m (σ.swap who iG 0 1),box p [ptr m,J W,.map (some ba),.map (some br)] 130,iE ba KC,ik br F JR]]:=Does.pack fun S w0 w h=>by
 have c0:w.cell? ⟨p,0,none⟩=some (ptr m):=(h.row 1 rfl).cell rfl;have H0:=zd h;clear h
 go_enter func176,ntmps176
 go_wp2_with fail
 go_region_held3 (fun w'=>w'.cell? ⟨p,0,none⟩=some (ptr m))
  (go_keep)
  (first
   |(go_at_call 142
     refine((lu 1 0).at H0.out.drew).mono ?_
     rintro e w1 ⟨rfl,s1⟩
     have g1:w1.cell? ⟨p,0,none⟩=some (ptr m):=(s1.row 1 rfl).cell rfl;have H1:=zd s1
     clear s1)
   |(go_at_call 168
     refine((mY who iG FK 0 1 (by unfold dC;omega) hl).at0 H1.out).mono ?_
     rintro e wz ⟨rfl,sz⟩
     have gz:wz.cell? ⟨p,0,none⟩=some (ptr m):=(sz.row 1 rfl).cell rfl;have Hz:=zd sz
     clear sz))
 go_wp2
 go_ret
 exact Ends.mk [] (by simpa using Hz.out)
theorem OG (who:Int) (hl:σ.log.length≤1000000):Does prog [jS p m ba br W σ KC JR] 176 #[ptr p,J who] (.bool (decide (σ.num iG=0))) [jS p m ba br W (σ.swap who iG 0 1) KC JR]:=
 Does.ex (F:=fun F=>aG (fA p m ba br W σ KC JR F)) (G:=fun F=>aG (fA p m ba br W (σ.swap who iG 0 1) KC JR F)) fun _=>H9 who hl
set_option maxHeartbeats 1000000 in
theorem BV (who:Int) (hl:σ.log.length≤1000000):
  Does prog [aG [bF m σ,box p [ptr m,J W,.map (some ba),.map (some br)] 130,iE ba KC,ik br F JR]] 238 #[ptr p,J who] (.tuple #[]) [aG [bF m ((σ.put who 2 iG).set iG 0),box p [ptr m,J W,.map (some ba),.map (some br)] 130,iE ba KC,ik br F JR]]:=Does.pack fun S w0 w h=>by
 have c0:w.cell? ⟨p,0,none⟩=some (ptr m):=(h.row 1 rfl).cell rfl;have H0:=zd h;clear h
 go_enter func238,ntmps238
 go_wp2_with fail
 go_region_held3 (fun w'=>w'.cell? ⟨p,0,none⟩=some (ptr m))
  (go_keep)
  (first
   |(go_at_call 142
     refine((lu 1 0).at H0.out.drew).mono ?_
     rintro e w1 ⟨rfl,s1⟩
     have g1:w1.cell? ⟨p,0,none⟩=some (ptr m):=(s1.row 1 rfl).cell rfl;have H1:=zd s1
     clear s1)
   |(go_at_call 175
     refine((jA who iG FK 0 (by unfold dC;omega) hl).at0 H1.out).mono ?_
     rintro e wz ⟨rfl,sz⟩
     have gz:wz.cell? ⟨p,0,none⟩=some (ptr m):=(sz.row 1 rfl).cell rfl;have Hz:=zd sz
     clear sz))
 go_wp2
 go_end0
 exact Ends.mk [] (by simpa using Hz.out)
theorem FO (who:Int) (hl:σ.log.length≤1000000):Does prog [jS p m ba br W σ KC JR] 238 #[ptr p,J who] (.tuple #[]) [jS p m ba br W ((σ.put who 2 iG).set iG 0) KC JR]:=
 Does.ex (F:=fun F=>aG (fA p m ba br W σ KC JR F)) (G:=fun F=>aG (fA p m ba br W ((σ.put who 2 iG).set iG 0) KC JR F)) fun _=>BV who hl
set_option maxHeartbeats 1000000 in
theorem BQ (who j:Int) (hj:I64 j) (hl:σ.log.length≤1000000):
  Does prog [aG [bF m σ,box p [ptr m,J W,.map (some ba),.map (some br)] 130,iE ba KC,ik br F JR]] 201 #[ptr p,J who,J j] (Ju (σ.num (fP j))) [aG [bF m (σ.put who 1 (fP j)),box p [ptr m,J W,.map (some ba),.map (some br)] 130,iE ba KC,ik br F JR]]:=Does.pack fun S w0 w h=>by
 have c0:w.cell? ⟨p,0,none⟩=some (ptr m):=(h.row 1 rfl).cell rfl;have H0:=zd h;clear h;have hw:=BN hj;have Hw:=zd hw;clear hw
 go_enter func201,ntmps201
 go_wp2_with fail
 go_region_held3 (fun w'=>w'.cell? ⟨p,0,none⟩=some (ptr m))
  (go_keep)
  (first
   |(go_at_call 142
     refine((lu 5 j).at H0.out.drew).mono ?_
     rintro e w1 ⟨rfl,s1⟩
     have g1:w1.cell? ⟨p,0,none⟩=some (ptr m):=(s1.row 1 rfl).cell rfl;have H1:=zd s1
     clear s1)
   |(go_at_call 184
     refine((jP who (fP j) Hw.out hl).at0 H1.out).mono ?_
     rintro e wz ⟨rfl,sz⟩
     have gz:wz.cell? ⟨p,0,none⟩=some (ptr m):=(sz.row 1 rfl).cell rfl;have Hz:=zd sz
     clear sz))
 go_wp2
 go_ret
 exact Ends.mk [] (by simpa using Hz.out)
theorem Dk (who j:Int) (hj:I64 j) (hl:σ.log.length≤1000000):Does prog [jS p m ba br W σ KC JR] 201 #[ptr p,J who,J j] (Ju (σ.num (fP j))) [jS p m ba br W (σ.put who 1 (fP j)) KC JR]:=
 Does.ex (F:=fun F=>aG (fA p m ba br W σ KC JR F)) (G:=fun F=>aG (fA p m ba br W (σ.put who 1 (fP j)) KC JR F)) fun _=>BQ who j hj hl
theorem zB:Does prog [jS p m ba br W σ KC JR] 219 #[ptr p] (J W) [jS p m ba br W σ KC JR]:=
 Does.ex (F:=fun F=>aG (fA p m ba br W σ KC JR F)) (G:=fun F=>aG (fA p m ba br W σ KC JR F)) fun F=>Does.pack fun S w0 w h=>by
 have c0:At w p 1 (J W):=(h.row 1 rfl).cell rfl;have H0:=zd h;clear h
 go_enter func219,ntmps219
 go_wp2
 go_ret
 exact Ends.mk [] (by simpa using H0.out)
set_option maxHeartbeats 1000000 in
theorem Ny (who:Int) (c:Cl) (hw':I64 who) (hl:σ.log.length≤1000000):Does prog [jS p m ba br W σ KC JR] 97 #[ptr p,J who,c.val] (.tuple #[]) [jS p m ba br W (σ.put who 6 (qo who)) (KC++[(who,c)]) JR]:=
 Does.ex (F:=fun F=>aG (fA p m ba br W σ KC JR F)) (G:=fun F=>aG (fA p m ba br W (σ.put who 6 (qo who)) (KC++[(who,c)]) JR F)) fun F=>Does.pack fun S w0 w h=>by
 have s1:=zd (show Scope S w0 (w.alloc (.cells #[J c.op,J c.flow,J c.a,J c.b] 49)).drew (fA p m ba br W σ KC JR F++[box w.heap.size [J c.op,J c.flow,J c.a,J c.b] 49])from(h.box [J c.op,J c.flow,J c.a,J c.b] 49).drew);have g0:(w.alloc (.cells #[J c.op,J c.flow,J c.a,J c.b] 49)).drew.cell? ⟨p,0,none⟩=some (ptr m):=(s1.out.row 1 rfl).cell rfl;have Hw':=zd hw';clear h hw'
 go_enter func97,ntmps97
 go_wp2_with fail
 go_region_held3 (fun w'=>w'.cell? ⟨p,0,none⟩=some (ptr m)) (go_keep)
  (first
   |(go_at_call 142
     refine((lu 6 who).at (Hid.out (by assumption))).mono ?_
     rintro e wq ⟨rfl,sq⟩
     have g0:wq.cell? ⟨p,0,none⟩=some (ptr m):=(sq.row 1 rfl).cell rfl;have Hq:=zd sq
     clear sq)
   |(go_at_call 141
     refine((nO who (qo who) hl).at0 (Hid.out (by assumption))).mono ?_
     rintro e wz ⟨rfl,sz⟩
     have g0:wz.cell? ⟨p,0,none⟩=some (ptr m):=(sz.row 1 rfl).cell rfl;have Hz:=zd sz
     clear sz))
 clear g0;obtain⟨B,hB⟩:∃ B,B=w.heap.size:=⟨_,rfl⟩
 have Z1:=zd (show Scope S w0 wz.drew (fA p m ba br W (σ.put who 6 (qo who)) KC JR F++[box B [J c.op,J c.flow,J c.a,J c.b] 49])from by rw[hB];exact Hz.out.drew)
 go_wp2_with fail
 rw[←hB];clear hB Hz s1;refine aP (by kernel_rfl) ?_;have Z2:=Z1;generalize wz.drew=d0 at Z2 ⊢
 clear Z1;have rB:=Z2.out.row (k:=B) (vs:=[J c.op,J c.flow,J c.a,J c.b]) (t:=49) 4 rfl;obtain⟨x0,x1,x2,x3⟩:=rB.cells4;have h0:d0.cell? ⟨p,2,none⟩=some (.map (some ba))∧d0.cell? ⟨B,0,none⟩=some (J c.op)∧d0.cell? ⟨B,1,none⟩=some (J c.flow)∧d0.cell? ⟨B,2,none⟩=some (J c.a)∧d0.cell? ⟨B,3,none⟩=some (J c.b):=⟨(Z2.out.row 1 rfl).cell rfl,x0,x1,x2,x3⟩
 clear rB x0 x1 x2 x3;refine bu (S:=fun w'=>w'.cell? ⟨p,2,none⟩=some (.map (some ba))∧w'.cell? ⟨B,0,none⟩=some (J c.op)∧w'.cell? ⟨B,1,none⟩=some (J c.flow)∧w'.cell? ⟨B,2,none⟩=some (J c.a)∧w'.cell? ⟨B,3,none⟩=some (J c.b)) (U:=[0,1,2,3,4,5]) _ _ _ _ ?_;refine aJ (i:=0) (v:=?_) rfl (by kernel_rfl) (fun _ _ _ h=>h) (Or.inl ⟨by rfl,?_⟩) h0 ?_
 rotate_left 1
 ·(intro w' hS;(try dsimp only at hS);(try simp only[ag,ah,aj]);go_simp;(try with_reducible rfl))
 try simp only[Act.put,ag,ah,aj,aF,aB,aC]
 refine aJ (i:=1) (v:=?_) rfl (by kernel_rfl) (fun _ _ _ h=>h) (Or.inl ⟨by rfl,?_⟩) h0 ?_
 rotate_left 1
 ·(intro w' hS;(try dsimp only at hS);(try simp only[ag,ah,aj]);go_simp;(try with_reducible rfl))
 try simp only[Act.put,ag,ah,aj,aF,aB,aC]
 refine aJ (i:=2) (v:=?_) rfl (by kernel_rfl) (fun _ _ _ h=>h) (Or.inl ⟨by rfl,?_⟩) h0 ?_
 rotate_left 1
 ·(intro w' hS;(try dsimp only at hS);(try simp only[ag,ah,aj]);go_simp;(try with_reducible rfl))
 try simp only[Act.put,ag,ah,aj,aF,aB,aC]
 refine aJ (i:=3) (v:=?_) rfl (by kernel_rfl) (fun _ _ _ h=>h) (Or.inl ⟨by rfl,?_⟩) h0 ?_
 rotate_left 1
 ·(intro w' hS;(try dsimp only at hS);(try simp only[ag,ah,aj]);go_simp;(try with_reducible rfl))
 try simp only[Act.put,ag,ah,aj,aF,aB,aC]
 refine aJ (i:=4) (v:=?_) rfl (by kernel_rfl) (fun _ _ _ h=>h) (Or.inl ⟨by rfl,?_⟩) h0 ?_
 rotate_left 1
 ·(intro w' hS;(try dsimp only at hS);(try simp only[ag,ah,aj]);go_simp;(try with_reducible rfl))
 try simp only[Act.put,ag,ah,aj,aF,aB,aC]
 refine aJ (i:=5) (v:=?_) rfl (by kernel_rfl) (fun _ _ _ h=>h) (Or.inl ⟨by rfl,?_⟩) h0 ?_
 rotate_left 1
 ·(intro w' hS;(try dsimp only at hS);(try simp only[ag,ah,aj]);go_simp;(try with_reducible rfl))
 try simp only[Act.put,ag,ah,aj,aF,aB,aC]
 refine aX _ _ _ _ (fun j hj=>?_) ?_
 ·simp at hj;rcases hj with rfl|rfl|rfl|rfl|rfl|rfl<;>rfl
 obtain⟨k,g,hm,hp⟩:=Z2.out.RG Hw'.out c;have Hp:=zd hp;obtain⟨l,hk⟩:=keyOf_int Hw'.out;clear hp h0;refine wpAny_all (rs:=[6]) (by kernel_rfl) (by simp) (fun i hi=>?_);obtain rfl:i=6:=by simpa using hi
 refine yg rfl rfl (fun K hK=>?_);refine qh _ _ _ 127 rfl 3 49 vG underlying127 ba k g rfl hm _ _ l rfl rfl hk ?_
 intro w3 m3 c3
 have P3:=zd (Hp.out w3 m3 c3);clear m3 c3;refine hK _ _ ?_;clear hK K;refine wpAny_done (by kernel_rfl) ?_ _
 go_wp2
 go_end0
 exact Ends.mk [box B [J c.op,J c.flow,J c.a,J c.b] 49] P3.out
set_option maxHeartbeats 1000000 in
theorem MQ (who j:Int) (hj:I64 j) (hl:σ.log.length≤1000000):Does prog [jS p m ba br W σ KC JR] 221 #[ptr p,J who,J j] (lastOf Cl.zero KC j).val [jS p m ba br W (σ.put who 5 (qo j)) KC JR]:=
 Does.ex (F:=fun F=>aG (fA p m ba br W σ KC JR F)) (G:=fun F=>aG (fA p m ba br W (σ.put who 5 (qo j)) KC JR F)) fun F=>Does.pack fun S w0 w h=>by
 have s1:=zd (show Scope S w0 (w.alloc (.cells #[J 0,J 0,J 0,J 0] 49)).drew (fA p m ba br W σ KC JR F++[box w.heap.size [J 0,J 0,J 0,J 0] 49])from(h.box [J 0,J 0,J 0,J 0] 49).drew);have g0:(w.alloc (.cells #[J 0,J 0,J 0,J 0] 49)).drew.cell? ⟨p,0,none⟩=some (ptr m):=(s1.out.row 1 rfl).cell rfl;have Hj:=zd hj;clear h hj
 go_enter func221,ntmps221
 go_wp2_with fail
 go_region_held3 (fun w'=>w'.cell? ⟨p,0,none⟩=some (ptr m)) (go_keep)
  (first
   |(go_at_call 142
     refine((lu 6 j).at (Hid.out (by assumption))).mono ?_
     rintro e wq ⟨rfl,sq⟩
     have g0:wq.cell? ⟨p,0,none⟩=some (ptr m):=(sq.row 1 rfl).cell rfl;have Hq:=zd sq
     clear sq)
   |(go_at_call 187
     refine((oO who (qo j) hl).at0 (Hid.out (by assumption))).mono ?_
     rintro e wz ⟨rfl,sz⟩
     have g0:wz.cell? ⟨p,0,none⟩=some (ptr m):=(sz.row 1 rfl).cell rfl;have Hz:=zd sz
     clear sz))
 clear g0;obtain⟨B,hB⟩:∃ B,B=w.heap.size:=⟨_,rfl⟩
 have Z1:=zd (show Scope S w0 wz (fA p m ba br W (σ.put who 5 (qo j)) KC JR F++[box B [J 0,J 0,J 0,J 0] 49])from by rw[hB];exact Hz.out);have hrun:=Z1.out.SY Hj.out;have c2:wz.cell? ⟨p,2,none⟩=some (.map (some ba)):=(Z1.out.row 1 rfl).cell rfl;have rg:=Z1.out.row (k:=B) (vs:=[J 0,J 0,J 0,J 0]) (t:=49) 4 rfl;have f0:=rg.free 0;have f1:=rg.free 1;have f2:=rg.free 2;have f3:=rg.free 3;obtain⟨x0,x1,x2,x3⟩:=rg.cells4;have Rg:=zd rg;clear rg Hz s1;rw[←hB];clear hB;generalize lastOf Cl.zero KC j=c at *
 go_wp2
 refine bodyPost_ret (results_cell_row rfl _ _ B 49 #[J c.op,J c.flow,J c.a,J c.b] (0,0) _ rfl ((((Rg.out.set 0 (J c.op)).set 1 (J c.flow)).set 2 (J c.a)).set 3 (J c.b)) underlying49 rfl (by kernel_rfl)) rfl ?_;refine Ends.mk [box B [J c.op,J c.flow,J c.a,J c.b] 49] ?_;have q1:=Scope.au (As:=fA p m ba br W (σ.put who 5 (qo j)) KC JR F) (Bs:=[]) Z1.out 0 (J c.op);have q2:=Scope.au (As:=fA p m ba br W (σ.put who 5 (qo j)) KC JR F) (Bs:=[]) q1 1 (J c.flow);have q3:=Scope.au (As:=fA p m ba br W (σ.put who 5 (qo j)) KC JR F) (Bs:=[]) q2 2 (J c.a);have q4:=Scope.au (As:=fA p m ba br W (σ.put who 5 (qo j)) KC JR F) (Bs:=[]) q3 3 (J c.b)
 exact q4
end
theorem Vt {w w1:World} {a b c:List Value} {t1 t2 t3:TypeId} (h:dE [] (((w.alloc (.cells a.toArray t1)).alloc (.cells b.toArray t2)).alloc (.cells c.toArray t3)) w1):
  Row w1 (w.heap.size+1) b t2∧Row w1 (w.heap.size+1+1) c t3∧dE [] w w1:=by
 have r1:=((Row.new (w.alloc (.cells a.toArray t1)) b t2).alloc (.cells c.toArray t3)).iZ h (by simp);have r2:=(Row.new ((w.alloc (.cells a.toArray t1)).alloc (.cells b.toArray t2)) c t3).iZ h (by simp);refine⟨by simpa using r1,by simpa using r2,((((dE.refl _ _).alloc _).alloc _).alloc _).quiet h⟩
def RP (w:World) (r:Rt) (e:Ending) (w':World):Prop:=∃ c oa,e=.returned (r.val (.slice oa r.pk.length c))∧w'.ownsRow 0 64 3 (.slice oa r.pk.length c) r.pk.length (iU r.pk)∧dE [] w w'∧∀ k,(Value.slice oa r.pk.length c).ownBlock=some k→w.heap.size≤k
set_option maxHeartbeats 1000000 in
theorem La {w:World} {r:Rt} {s:Value} (hs:vk w s r.pk) (hf:lJ r.pk):Calls prog 237 #[r.val s] w (RP w r):=by
 have HS:=zd hs;obtain⟨oa,cp,es⟩:=hs.form;clear hs;obtain⟨n,hn⟩:∃ n,n=r.pk.length:=⟨_,rfl⟩
 rw[←hn]at es;have HN:=zd hn;clear hn;subst es
 go_enter func237,ntmps237
 go_wp2_with fail
 refine(qN (HS.out.iZ ((((dE.refl _ _).alloc _).alloc _).alloc _)) hf).mono ?_
 rintro e w1 ⟨v,rfl,o1,c1,n1⟩
 obtain⟨r1,r2,c2⟩:=Vt (a:=[J r.e,.slice oa n cp,J r.n,Ju r.v]) (b:=[J 0,nS,J 0,Ju 0]) (c:=[J r.e,.slice oa n cp,J r.n,Ju r.v]) c1;obtain⟨ob,cq,ev⟩:=(vk.jk o1).form;subst ev;have nb:∀ k,(Value.slice ob r.pk.length cq).ownBlock=some k→w.heap.size+3≤k:=by simpa using n1
 have O1:=zd o1;have C2:=zd c2;have NB:=zd nb;obtain⟨B,hB⟩:∃ B,B=w.heap.size+1:=⟨_,rfl⟩
 rw[←hB]at r1 r2 ⊢
 have R1:=zd r1;have R2:=zd r2;have f0:=r1.free 0;have f1:=r1.free 1;have f2:=r1.free 2;have f3:=r1.free 3;obtain⟨x0,x1,x2,x3⟩:=r1.cells4;have g1:=r2.free 1;obtain⟨y0,y1,y2,y3⟩:=r2.cells4;have HB:=zd hB;clear o1 c2 nb r1 r2 n1 c1 hB
 go_wp2
 refine bodyPost_ret (results_cell_row rfl _ _ B 60 #[J r.e,.slice ob r.pk.length cq,J r.n,Ju r.v] (0,0) _ rfl ((((((R1.out.other (a:=⟨B+1,1,none⟩) (by simp) _).set 0 (J r.e)).set 1 (.slice ob r.pk.length cq)).set 2 (J r.n)).set 3 (Ju r.v))) underlying60 rfl (by kernel_rfl)) rfl ?_;have hB:=HB.out;refine⟨cq,ob,rfl,gY O1.out ((((((dE.refl [B,B+1] w1).setCell (.inl (by simp)) _).setCell (.inl (by simp)) _).setCell (.inl (by simp)) _).setCell (.inl (by simp)) _).setCell (.inl (by simp)) _) (fun k hk=>?_),((((C2.out.setCell (.inr (by simp;omega)) _).setCell (.inr (by simp;omega)) _).setCell (.inr (by simp;omega)) _).setCell (.inr (by simp;omega)) _).setCell (.inr (by simp;omega)) _,fun k hk=>?_⟩
 ·have:=NB.out k hk
  simp
  omega
 ·have:=NB.out k hk
  omega
section
variable {S:List Nat} {w0 w:World} {Bs:List HA} {p m ba br:Nat} {W:Int} {σ:MS} {KC:List (Int×Cl)} {JR:List (Int×Rt)}
set_option maxHeartbeats 1000000 in
theorem zQ (who j:Int) (r:Rt) (s:Value) (h:Scope S w0 w (jS p m ba br W σ KC JR::Bs)) (hj:I64 j) (hsafe:∀ X w',Scope S w0 w' (X::Bs)→vk w' s r.pk) (hf:lJ r.pk) (hl:σ.log.length≤1000000):
  Calls prog 244 #[ptr p,J who,J j,r.val s] w fun e w'=>e=.returned (.tuple #[])∧Scope S w0 w' (jS p m ba br W (σ.put who 6 (oH j)) KC (JR++[(j,r)])::Bs):=by
 obtain⟨F,h1⟩:=h.xq;obtain⟨oa,cp,es⟩:=(hsafe _ _ h1).form;obtain⟨n,hn⟩:∃ n,n=r.pk.length:=⟨_,rfl⟩
 rw[←hn]at es;have HN:=zd hn;clear hn;subst es;have s1:=zd (show Scope S w0 (w.alloc (.cells #[J r.e,.slice oa n cp,J r.n,Ju r.v] 60)).drew (fA p m ba br W σ KC JR F++Bs)from(h1.gU.alloc _).drew);have g0:(w.alloc (.cells #[J r.e,.slice oa n cp,J r.n,Ju r.v] 60)).drew.cell? ⟨p,0,none⟩=some (ptr m):=(s1.out.row 1 rfl).cell rfl;have Hj:=zd hj;have HS:=zd hsafe;clear h h1 hj hsafe
 go_enter func244,ntmps244
 go_wp2_with fail
 go_region_held3 (fun w'=>w'.cell? ⟨p,0,none⟩=some (ptr m)) (go_keep)
  (first
   |(go_at_call 142
     refine((lu 7 j).at (Hid.out (by assumption))).mono ?_
     rintro e wq ⟨rfl,sq⟩
     have g0:wq.cell? ⟨p,0,none⟩=some (ptr m):=(sq.row 1 rfl).cell rfl;have Hq:=zd sq
     clear sq)
   |(go_at_call 141
     refine((nO who (oH j) hl).at0 (Hid.out (by assumption))).mono ?_
     rintro e wz ⟨rfl,sz⟩
     have g0:wz.cell? ⟨p,0,none⟩=some (ptr m):=(sz.row 1 rfl).cell rfl;have Hz:=zd sz
     clear sz))
 clear g0 s1
 go_wp2_with fail
 refine aP (by kernel_rfl) ?_;have Z1:=zd Hz.out.drew;generalize wz.drew=d0 at Z1 ⊢
 clear Hz;have h0:d0.cell? ⟨p,3,none⟩=some (.map (some br)):=(Z1.out.row 1 rfl).cell rfl;have hp0:=HS.out _ _ (Scope.shut1 (As:=fA p m ba br W (σ.put who 6 (oH j)) KC JR F) Z1.out);have HP:=zd hp0;clear hp0;refine bu (S:=fun w'=>w'.cell? ⟨p,3,none⟩=some (.map (some br))) (U:=[0,1,2,3,4,5,6,7]) _ _ _ _ ?_;refine aJ (i:=0) (v:=?_) rfl (by kernel_rfl) (fun _ _ _ h=>h) (Or.inl ⟨by rfl,?_⟩) h0 ?_
 rotate_left 1
 ·(intro w' hS;(try dsimp only at hS);(try simp only[ag,ah,aj]);go_simp;(try with_reducible rfl))
 try simp only[Act.put,ag,ah,aj,aF,aB,aC]
 refine aJ (i:=1) (v:=?_) rfl (by kernel_rfl) (fun _ _ _ h=>h) (Or.inl ⟨by rfl,?_⟩) h0 ?_
 rotate_left 1
 ·(intro w' hS;(try dsimp only at hS);(try simp only[ag,ah,aj]);go_simp;(try with_reducible rfl))
 try simp only[Act.put,ag,ah,aj,aF,aB,aC]
 refine aJ (i:=2) (v:=?_) rfl (by kernel_rfl) (fun _ _ _ h=>h) (Or.inl ⟨by rfl,?_⟩) h0 ?_
 rotate_left 1
 ·(intro w' hS;(try dsimp only at hS);(try simp only[ag,ah,aj]);go_simp;(try with_reducible rfl))
 try simp only[Act.put,ag,ah,aj,aF,aB,aC]
 refine aJ (i:=3) (v:=?_) rfl (by kernel_rfl) (fun _ _ _ h=>h) (Or.inl ⟨by rfl,?_⟩) h0 ?_
 rotate_left 1
 ·(intro w' hS;(try dsimp only at hS);(try simp only[ag,ah,aj]);go_simp;(try with_reducible rfl))
 try simp only[Act.put,ag,ah,aj,aF,aB,aC]
 refine aJ (i:=4) (v:=?_) rfl (by kernel_rfl) (fun _ _ _ h=>h) (Or.inl ⟨by rfl,?_⟩) h0 ?_
 rotate_left 1
 ·(intro w' hS;(try dsimp only at hS);(try simp only[ag,ah,aj]);go_simp;(try with_reducible rfl))
 try simp only[Act.put,ag,ah,aj,aF,aB,aC]
 refine aJ (i:=5) (v:=?_) rfl (by kernel_rfl) (fun _ _ _ h=>h) (Or.inl ⟨by rfl,?_⟩) h0 ?_
 rotate_left 1
 ·(intro w' hS;(try dsimp only at hS);(try simp only[ag,ah,aj]);go_simp;(try with_reducible rfl))
 try simp only[Act.put,ag,ah,aj,aF,aB,aC]
 refine aK 6 (by kernel_rfl) rfl (by rfl) fun K hK=>?_
 go_simp;refine(La HP.out hf).mono ?_
 rintro e w4 ⟨cq,ob,rfl,o1,c1,n1⟩
 have h1:w4.cell? ⟨p,3,none⟩=some (.map (some br)):=c1.cell h0 (by simp);have O1:=zd o1;have C1:=zd c1;have N1:=zd n1;refine hK _ _ ⟨fun _=>h1,?_⟩;clear hK K o1 c1 n1 h0
 try simp only[Act.put,ag,ah,aj,aF,aB,aC]
 refine aJ (i:=7) (v:=?_) rfl (by kernel_rfl) (fun _ _ _ h=>h) (Or.inl ⟨by rfl,?_⟩) h1 ?_
 rotate_left 1
 ·(intro w' hS;(try dsimp only at hS);(try simp only[ag,ah,aj]);go_simp;(try with_reducible rfl))
 try simp only[Act.put,ag,ah,aj,aF,aB,aC]
 refine aX _ _ _ _ (fun j hj=>?_) ?_
 ·simp at hj;rcases hj with rfl|rfl|rfl|rfl|rfl|rfl|rfl|rfl<;>rfl
 obtain⟨k,g,hm,hp⟩:=Z1.out.SB Hj.out r C1.out O1.out N1.out hf;have Hp:=zd hp;obtain⟨l,hk⟩:=keyOf_int Hj.out;clear hp h1;refine wpAny_all (rs:=[8]) (by kernel_rfl) (by simp) (fun i hi=>?_);obtain rfl:i=8:=by simpa using hi
 refine yg rfl rfl (fun K hK=>?_);refine qh _ _ _ 128 rfl 3 288 vG underlying128 br k g rfl hm _ _ l rfl rfl hk ?_
 intro w3 m3 c3
 have P3:=zd (Hp.out w3 m3 c3);clear m3 c3;refine hK _ _ ?_;clear hK K;refine wpAny_done (by kernel_rfl) ?_ _
 go_wp2
 go_end0
 exact⟨rfl,Scope.tX (F:=fun F=>aG (fA p m ba br W (σ.put who 6 (oH j)) KC (JR++[(j,r)]) F)) _ (Scope.shut1 (As:=fA p m ba br W (σ.put who 6 (oH j)) KC (JR++[(j,r)]) _) P3.out)⟩
def UG (S:List Nat) (w0:World) (r:Rt) (X:HA) (Bs:List HA) (e:Ending) (w':World):Prop:=∃ c oa,e=.returned (r.val (.slice oa r.pk.length c))∧Scope S w0 w' (X::aU (.slice oa r.pk.length c) 64 3 r.pk.length (iU r.pk)::Bs)
set_option maxHeartbeats 1000000 in
theorem zU (who:Int) (h:Scope S w0 w (jS p m ba br W σ KC JR::Bs)) (hw':I64 who) (hl:σ.log.length≤1000000):
  Calls prog 218 #[ptr p,J who] w (UG S w0 (lastOf Rt.zero JR who) (jS p m ba br W (σ.put who 5 (oH who)) KC JR) Bs):=by
 obtain⟨F,h1⟩:=h.xq;have q0:=Scope.swap (As:=fA p m ba br W σ KC JR F) (Bs:=Bs) (Cs:=[]) (by simpa using h1.gU);have s1:Scope S w0 (w.alloc (.cells #[J 0,nS,J 0,Ju 0] 60)) (fA p m ba br W σ KC JR F++(Bs++[box w.heap.size [J 0,nS,J 0,Ju 0] 60])):=by
  have:=(h1.gU).box [J 0,nS,J 0,Ju 0] 60
  simpa using this
 have c3:(w.alloc (.cells #[J 0,nS,J 0,Ju 0] 60)).cell? ⟨p,3,none⟩=some (.map (some br)):=(s1.row 1 rfl).cell rfl;have hrun:=s1.TC hw';have g0:(w.alloc (.cells #[J 0,nS,J 0,Ju 0] 60)).drew.cell? ⟨p,0,none⟩=some (ptr m):=(s1.drew.row 1 rfl).cell rfl;have S1:=zd s1.drew;have Hw':=zd hw';clear h h1 hw' q0 s1
 go_enter func218,ntmps218
 go_wp2_with fail
 go_region_held3 (fun w'=>w'.cell? ⟨p,0,none⟩=some (ptr m)) (go_keep)
  (first
   |(go_at_call 142
     refine((lu 7 who).at (Hid.out (by assumption))).mono ?_
     rintro e wq ⟨rfl,sq⟩
     have g0:wq.cell? ⟨p,0,none⟩=some (ptr m):=(sq.row 1 rfl).cell rfl;have Hq:=zd sq
     clear sq)
   |(go_at_call 187
     refine((oO who (oH who) hl).at0 (Hid.out (by assumption))).mono ?_
     rintro e wz ⟨rfl,sz⟩
     have g0:wz.cell? ⟨p,0,none⟩=some (ptr m):=(sz.row 1 rfl).cell rfl;have Hz:=zd sz
     clear sz))
 clear g0 S1 hrun c3;obtain⟨hpk,hf⟩:=Hz.out.UH Hw'.out;have HP:=zd hpk;clear hpk;generalize hr:lastOf Rt.zero JR who=r at *;obtain⟨B,hB⟩:∃ B,B=w.heap.size:=⟨_,rfl⟩
 rw[←hB]at Hz
 go_wp2_with fail
 rw[←hB];refine(La HP.out hf).mono ?_
 rintro e w4 ⟨cq,ob,rfl,o1,c1,n1⟩
 have z4:=Hz.out.joinL (Bs:=[aU (.slice ob r.pk.length cq) 64 3 r.pk.length (iU r.pk)]) (dh (A:=aU (.slice ob r.pk.length cq) 64 3 r.pk.length (iU r.pk)) ⟨o1,rfl⟩) c1 (fun k hk=>n1 k (by simpa using hk));have z5:Scope S w0 w4 (((aU (.slice ob r.pk.length cq) 64 3 r.pk.length (iU r.pk)::fA p m ba br W (σ.put who 5 (oH who)) KC JR F)++Bs)++([box B [J 0,nS,J 0,Ju 0] 60]++[])):=by simpa using z4
 have z6:=z5;obtain⟨fp,hfp,hd⟩:=Scope.does (As:=[box B [J 0,nS,J 0,Ju 0] 60]) (Bs:=((aU (.slice ob r.pk.length cq) 64 3 r.pk.length (iU r.pk)::fA p m ba br W (σ.put who 5 (oH who)) KC JR F)++Bs)++[]) (z5.swap);obtain⟨rg,_⟩:=bZ hfp;have f0:=rg.free 0;have f1:=rg.free 1;have f2:=rg.free 2;have f3:=rg.free 3;obtain⟨x0,x1,x2,x3⟩:=rg.cells4;have Rg:=zd rg;have Z5:=zd z5;have Hr:=zd hr;clear rg hfp hd z6 z5 z4 o1 c1 n1 Hz hr hB
 go_wp2
 refine bodyPost_ret (results_cell_row rfl _ _ B 60 #[J r.e,.slice ob r.pk.length cq,J r.n,Ju r.v] (0,0) _ rfl ((((Rg.out.set 0 (J r.e)).set 1 (.slice ob r.pk.length cq)).set 2 (J r.n)).set 3 (Ju r.v)) underlying60 rfl (by kernel_rfl)) rfl ?_;have q1:=Scope.au (Bs:=[]) Z5.out 0 (J r.e);have q2:=Scope.au (Bs:=[]) q1 1 (.slice ob r.pk.length cq);have q3:=Scope.au (Bs:=[]) q2 2 (J r.n);have q4:=Scope.au (Bs:=[]) q3 3 (Ju r.v);have q5:=Scope.drop q4;have q6:=Scope.swap (As:=[aU (.slice ob r.pk.length cq) 64 3 r.pk.length (iU r.pk)]) (Bs:=fA p m ba br W (σ.put who 5 (oH who)) KC JR F) (Cs:=Bs) q5;have q7:=Scope.shut1 (As:=fA p m ba br W (σ.put who 5 (oH who)) KC JR F) q6
 exact⟨cq,ob,rfl,Scope.tX (F:=fun F=>aG (fA p m ba br W (σ.put who 5 (oH who)) KC JR F)) _ q7⟩
def OM (v:Int):Int:=min (max v 1) 6
theorem Rj (w:World):(aG [iE w.heap.size []]).holds (w.alloc (.map #[] 0)) [w.heap.size]:=
 dh (A:=iE w.heap.size []) ⟨⟨0,fun _=>none,dD.made _ _ w,fun _ _=>rfl⟩,rfl⟩
@[reducible] def xe:Int→Value:=fun _=>nS
theorem QL (w:World):(aG [ik w.heap.size xe []]).holds (w.alloc (.map #[] 0)) [w.heap.size]:=
 dh (A:=ik w.heap.size xe []) ⟨by simp,fun k hk=>by simp at hk;subst hk;simp,⟨0,fun _=>none,dD.made _ _ w,fun _ _=>rfl⟩,fun o _=>⟨by unfold lJ lastOf;simp[Rt.zero],⟨rfl,.inl ⟨rfl,rfl⟩⟩,fun k hk=>by simp[Value.ownBlock]at hk⟩⟩
theorem Scope.VB {As:List HA} (h:Scope S w0 w As) {m:Nat} {a x:Int} (hx:x=OM a):
  Scope S w0 (((w.alloc (.map #[] 0)).alloc (.map #[] 0)).alloc (.cells #[ptr m,J x,.map (some w.heap.size),.map (some (w.heap.size+1))] 130)) (As++[iE w.heap.size []]++[ik (w.heap.size+1) xe []]++[Go.Proofs.YtjnbbmgbmiggbaaGreatDoor.box (w.heap.size+1+1) [ptr m,J (OM a),.map (some w.heap.size),.map (some (w.heap.size+1))] 130]):=by
 subst hx;have q1:=h.join (Rj w) ((dE.refl _ _).alloc _) (by simp);have q2:=q1.join (QL (w.alloc (.map #[] 0))) ((dE.refl _ _).alloc _) (by simp);have q3:=q2.box [ptr m,J (OM a),.map (some w.heap.size),.map (some (w.heap.size+1))] 130
 simpa using q3
def NJ (S:List Nat) (w0:World) (As:List HA) (m:Nat) (a:Int) (e:Ending) (w':World):Prop:=∃ p ba br,e=.returned (ptr p)∧Scope S w0 w' (As++[iE ba []]++[ik br xe []]++[box p [ptr m,J (OM a),.map (some ba),.map (some br)] 130])
theorem qc {As:List HA} (h:Scope S w0 w As) (m:Nat) (a:Int):Calls prog 36 #[ptr m,J a] w (NJ S w0 As m a):=by
 have H0:=zd h;have hmm:= @run_makeMap prog;clear h
 go_enter func36,ntmps36
 go_wp2
 all_goals (go_ret;exact⟨w.heap.size+1+1,w.heap.size,w.heap.size+1,by simp,H0.out.VB (by unfold OM;omega)⟩)
end
end Go.Proofs.YtjnbbmgbmiggbaaGreatDoor
