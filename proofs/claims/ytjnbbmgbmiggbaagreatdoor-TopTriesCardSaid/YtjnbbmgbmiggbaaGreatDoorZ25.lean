/- The tied card of TopTries holds: at every input, with the listed table as the program's text lays it, the law answers true, and each argument reads behind the call as it read before. -/
import Derived.Test.YtjnbbmgbmiggbaaGreatDoorCards
import Derived.Test.YtjnbbmgbmiggbaaGreatDoorTie
import Derived.OpenShut
import Derived.Deep.DeepHandedRow
import Derived.Lib.LaidTab
import Derived.Test.YtjnbbmgbmiggbaaGreatDoorZ24
set_option linter.unusedSimpArgs false
set_option linter.unusedVariables false
set_option maxRecDepth 20000
set_option maxHeartbeats 4000000
namespace Go.Proofs.YtjnbbmgbmiggbaaGreatDoor.rowTopTries
open Go Go.RowKit Go.Maps Go.ChangeShapes Go.WideShapes Go.ChangeAt Go.Proofs.Tryz
section
variable {H:Type} {enc:TypeId×Value→H} {w:World} {base:Nat} {spare:Nat→Bool} {held:Bool} {v:Value} {d:DataW H} {p:List MemPlace} {b0:Nat} {cs:List Value} {x:DataW H×List MemPlace} {fuel:Nat}
theorem Pn (h:DataW.trod enc prog w base spare held fuel 49 cs=some x):∃ q:Cl,uV q∧cs=q.cells:=by
 obtain⟨ns,h1,h2,h3⟩:=AZ 3 _ _ _ _ _ QG h
 match ns,h1 with
 | [a,b,c,e],_=>exact⟨⟨a,b,c,e⟩,⟨y5 (h3 0 _ _ rfl rfl),y5 (h3 1 _ _ rfl rfl),y5 (h3 2 _ _ rfl rfl),y5 (h3 3 _ _ rfl rfl)⟩,h2⟩
theorem FX (hv:∃ a len cap,v=.slice a len cap) (h:DataW.Trod enc prog w base spare held 46 v d p) (hw:Ua prog 46 d):∃ L:List Cl,JK w v L:=by
 obtain⟨L,oa,c,hv',h1,h2,h3,h4,h5⟩:=uh Cl.zero (fun cs (q:Cl)=>uV q∧cs=q.cells) 4 underlying46 (by kernel_rfl) (by omega) (fun n cs y hy _=>by
  obtain⟨q,ho,rfl⟩:=Pn hy
  exact⟨rfl,q,ho,rfl⟩) hv h hw
 refine⟨L,fun q hq=>?_,oa,c,hv',h1,h2,fun k a hk=>?_⟩
 ·obtain⟨k,hk⟩:=List.getElem?_of_mem hq
  obtain⟨_,_,_,h6,_⟩:=h5 k q hk
  exact h6.1
 ·obtain⟨cs,g,off,⟨_,rfl⟩,he,_,hc⟩:=h5 k a hk
  exact⟨g,off,he,fun w' ch=>⟨ch.cell (hc 0 _ rfl) (by simp),ch.cell (hc 1 _ rfl) (by simp),ch.cell (hc 2 _ rfl) (by simp),ch.cell (hc 3 _ rfl) (by simp)⟩⟩
theorem Jw (hv:Value.okWide prog w .any b0 25 v) (h:DataW.Trod enc prog w base spare held 25 v d p) (hw:Ua prog 25 d):∃ Ls:List (List Cl),Gw w v Ls:=by
 obtain⟨Ls,oa,c,hv',h1,h2,h3,h4,h5⟩:=uh [] (fun cs (L:List Cl)=>∃ lv,cs=[lv]∧JK w lv L) 1 underlying25 (by kernel_rfl) (by omega) (fun n cs y hy hwk=>by
  obtain⟨a,len,cap,rfl⟩:=Jq underlying46 hy;obtain⟨L,hL⟩:=FX (v:=.slice a len cap) (d:=y.1) (p:=y.2) ⟨a,len,cap,rfl⟩ ⟨n,hy⟩ hwk
  exact⟨rfl,L,_,rfl,hL⟩) (okWide_slice underlying25 hv) h hw
 refine⟨Ls,oa,c,hv',by omega,fun k L hk=>?_⟩;obtain⟨cs,g,off,⟨lv,rfl,hL⟩,he,_,hc⟩:=h5 k L hk;have h0:=hc 0 _ rfl;rw[Nat.mul_one,Nat.add_zero]at h0
 exact⟨g,off,lv,he,fun w' ch=>ch.cell h0 (by simp),hL⟩
theorem I9 (hv:Value.okWide prog w .any b0 26 v) (h:DataW.Trod enc prog w base spare held 26 v d p) (hw:Ua prog 26 d):∃ xs:List Int,Qg w v xs:=by
 obtain⟨L,oa,c,hv',h1,h2,h3,h4,h5⟩:=uh (0:Int) (fun cs (q:Int)=>cs=[J q]) 1 underlying26 (by kernel_rfl) (by omega) (fun n cs y hy _=>by
  obtain⟨q,rfl,_⟩:=O0 underlying3 hy
  exact⟨rfl,q,rfl⟩) (okWide_slice underlying26 hv) h hw
 refine⟨L,oa,c,hv',by omega,fun k a hk=>?_⟩;obtain⟨cs,g,off,rfl,he,_,hc⟩:=h5 k a hk;have h0:=hc 0 _ rfl;rw[Nat.mul_one,Nat.add_zero]at h0
 exact⟨g,off,he,fun w' ch=>ch.cell h0 (by simp)⟩
theorem Ic:flatK prog 3 24=some [.i64,.i64,.i64,.i64,.u64]:=by kernel_rfl
theorem Ef (hv:Value.okWide prog w .any b0 24 v) (h:DataW.Trod enc prog w base spare held 24 v d p):∃ a b c e u:Int,dC u∧v=.agg #[J a,J b,J c,J e,Ju u]:=by
 obtain⟨ns,h1,h2,h3⟩:=LY 3 Ic underlying24 hv h
 match ns,h1 with
 | [a,b,c,e,u],_=>exact⟨a,b,c,e,u,UN (h3 4 _ _ rfl rfl),h2⟩
end
theorem gTab:prog.globalNamed "math/bits.deBruijn64tab" =some 0:=by kernel_rfl
theorem QP:(prog.globals[0]?).map (·.type)=some 270:=by kernel_rfl
theorem OO:prog.cellsOf 270=64:=by kernel_rfl
theorem SE:prog.cellsOf 5=1:=by kernel_rfl
theorem Ut:Rows.topTriesRow.laid=[("math/bits.deBruijn64tab",Lib.tabData .u8 (Lib.deBruijn64tab.map fun k:Nat=>(k:Int)))]:=by kernel_rfl
theorem table {W:World} (h:laidMetH prog Rows.topTriesRow.laid W) (hs:W.ShapedOpen prog):W.heap[0]? =some (.cells (Lib.deBruijn64tab.map fun k:Nat=>Value.int .u8 (k:Int)).toArray 270 (0,0)):=by
 have h1:laidMet prog Rows.topTriesRow.laid W:=h;rw[Ut]at h1;have h2:=Lib.tabIs_of_head (rest:=[]) gTab QP underlying270 underlying5 SE OO h1;unfold Lib.TabIs World.var? at h2;rw[gTab]at h2;obtain⟨z,hz⟩:∃ z:Array Value,(((begin prog (fun _ _=>0) default).world.heap[0]?).bind Obj.row?)=some (z,270):=⟨(List.replicate 64 (Value.int .u8 0)).toArray,by kernel_rfl⟩
 obtain⟨cs,h3,_⟩:=hs.1 0 z 270 (of_decide_eq_true (by kernel_rfl)) hz;simp only[Option.bind_some,h3,Option.some.injEq]at h2;rw[h3,h2,List.map_map]
 rfl
theorem contract (H:Type) (enc:TypeId×Value→H) (W:World) (base:Nat) (args:Array Value) (ds gs:List (DataW H)) (before:List MemPlace)
  (hval0:∀ (j:Nat) t v,Tryz.f3.params[j]? =some t→args[j]? =some v→Value.okWide prog W .any base t v)
  (hW:DataW.Whole enc prog Tryz.f3.params.toList Rows.topTriesSpec.vars false W args.toList ds gs before)
  (hsz0:(DataW.weightsEach prog (Tryz.f3.params.toList++(OpenSpec.ofChange Rows.topTriesSpec).bare.plain.varTypes prog) (ds++gs)).all (· ≤reachBytes)=true)
  (hL:laidMetH prog Rows.topTriesRow.laid W) (hS:W.ShapedOpen prog):
  Calls prog 3 args W fun e W'=>∃ v,e=.returned v∧Rows.topTriesSpec.post enc prog Tryz.f3 false true false false W args v W':=by
 have hdb:=table hL hS;have hval:∀ (j:Nat) t v,Tryz.f3.params[j]? =some t→args[j]? =some v→Value.okWide prog W .any base t v:=hval0;have hW':=hW;obtain⟨p,q,hA0,hV,rfl,hfz,hnd⟩:=hW;have hA:DataW.TrodAll enc prog W 0 (fun _=>true) true Tryz.f3.params.toList args.toList ds p:=hA0;rw[params3]at hA hval hsz0;obtain⟨v0,vs0,d0,ds0,p0,q0,hargs,rfl,rfl,h0,r0⟩:=trodAll_cons hA;obtain⟨v1,vs1,d1,ds1,p1,q1,rfl,rfl,rfl,h1,r1⟩:=trodAll_cons r0;obtain⟨v2,vs2,d2,ds2,p2,q2,rfl,rfl,rfl,h2,r2⟩:=trodAll_cons r1;obtain⟨v3,vs3,d3,ds3,p3,q3,rfl,rfl,rfl,h3,r3⟩:=trodAll_cons r2;obtain⟨rfl,rfl,rfl⟩:=trodAll_nil r3;obtain rfl:args=#[v0,v1,v2,v3]:=by cases args;simp_all
 obtain⟨rfl,rfl⟩:=trodVars_none hV;have k0:=h0;have lt0:∀ x∈p0,x.block<W.heap.size:=by obtain⟨m,hm⟩:=k0;exact DataW.trod_lt m _ _ _ hm
 obtain⟨a,b,c,e,u,hu,e0⟩:=Ef (hval 0 24 v0 rfl rfl) h0;have k1:=h1;have lt1:∀ x∈p1,x.block<W.heap.size:=by obtain⟨m,hm⟩:=k1;exact DataW.trod_lt m _ _ _ hm
 obtain⟨Ls,w1⟩:=Jw (hval 1 25 v1 rfl rfl) h1 (qi hsz0 1 rfl rfl);have k2:=h2;have lt2:∀ x∈p2,x.block<W.heap.size:=by obtain⟨m,hm⟩:=k2;exact DataW.trod_lt m _ _ _ hm
 obtain⟨xs,w2⟩:=I9 (hval 2 26 v2 rfl rfl) h2 (qi hsz0 2 rfl rfl);have k3:=h3;have lt3:∀ x∈p3,x.block<W.heap.size:=by obtain⟨m,hm⟩:=k3;exact DataW.trod_lt m _ _ _ hm
 obtain⟨r,_,e3⟩:=open_int (hval 3 3 v3 rfl rfl) h3;subst e0;subst e3;clear hA0 hval0 hsz0 hval;refine(topTries_row hu w1 w2 hdb).mono fun e W' ⟨he,bel⟩=>?_
 subst he
 exact⟨_,rfl,_,_,_,[],_,[],hW',trodAll_mk1 (shut_bool underlying4 _),(trodAll_cons_mk (Below.trod laidOut (by kernel_rfl) (of_decide_eq_true (by kernel_rfl)) k0 bel lt0) (trodAll_cons_mk (Below.trod laidOut (by kernel_rfl) (of_decide_eq_true (by kernel_rfl)) k1 bel lt1) (trodAll_cons_mk (Below.trod laidOut (by kernel_rfl) (of_decide_eq_true (by kernel_rfl)) k2 bel lt2) (trodAll_cons_mk (Below.trod laidOut (by kernel_rfl) (of_decide_eq_true (by kernel_rfl)) k3 bel lt3) trodAll_mk0)))),rfl,bel.frame _,fun h=>by cases h⟩
noncomputable def laidWorld (os:Os):World:=
 { World.holding prog os ⟨#[],#[],[]⟩with heap:=(World.holding prog os ⟨#[],#[],[]⟩).heap.modify 0 fun
   |.cells _ t frozen=>.cells (Lib.deBruijn64tab.map fun k:Nat=>Value.int .u8 (k:Int)).toArray t frozen
   |o=>o }
@[reducible] def xu:Array Value:=#[.agg #[J 0,J 0,J 0,J 0,Ju 0],nS,nS,J 0]
theorem laid_met (os:Os):laidMet prog Rows.topTriesRow.laid ((laidWorld os).forCall (fun _ _=>0) ⟨#[],xu,[]⟩).memory:=
 laidMet_of_run' 8 (by kernel_rfl) (by kernel_rfl)
theorem reads (os:Os) {H:Type} (enc:TypeId×Value→H):∃ places,DataW.whole enc prog ((laidWorld os).forCall (fun _ _=>0) ⟨#[],xu,[]⟩).memory Tryz.f3.params.toList Rows.topTriesSpec.vars false xu.toList 8=some ([.agg [.lit (.int .i64 0),.lit (.int .i64 0),.lit (.int .i64 0),.lit (.int .i64 0),.lit (.int .u64 0)],.nil,.nil,.lit (.int .i64 0)],[],places):=
 ⟨[],by kernel_rfl⟩
set_option maxRecDepth 100000 in
theorem lifted (os:Os) (started:os.Started) (H:Type) (enc:TypeId×Value→H) (F:Stop.Interp):
  ReturnsInHanded {} Tryz.checked os 3 .any ((OpenSpec.ofChange Rows.topTriesSpec).preRow enc prog Tryz.f3 Rows.topTriesRow.domain false Rows.topTriesRow.laid) (((OpenSpec.ofChange Rows.topTriesSpec).at F).post enc prog Tryz.f3 false true false false):=by
 obtain⟨places,hx⟩:=reads os enc;refine returnsInHanded_of_row (C:=Tryz.checked) (s:=OpenSpec.ofChange Rows.topTriesSpec) own started (by kernel_rfl) func3
  (witness_row_at (enc:=enc) (C:=Tryz.checked) false (laidWorld os) xu rfl (by kernel_rfl) (by kernel_rfl) (by kernel_rfl)
   (OpenSpec.preRow_of_cond 8 hx (by kernel_rfl) (fun k hk=>by cases hk) (by kernel_rfl) (laid_met os))) ?_
 intro W base args ds gs before hval hW _ _ hsz hL hS _
 exact contract H enc W base args ds gs before hval hW hsz hL hS
theorem said:Rows.TopTriesSaid:=
 OpenClaim.holds_of_cond 3 Tryz.f3 rfl rfl rfl rfl rfl rfl rfl ⟨rfl,rfl,rfl,rfl,rfl⟩ rfl rfl rfl rfl rfl (by kernel_rfl) func3 (by kernel_rfl)
  (of_decide_eq_true (by kernel_rfl)) (by unfold Func.isWrapper;first|(rw[if_pos (by decide+kernel)];kernel_rfl)|(rw[if_neg (by decide+kernel)];exact⟨rfl,rfl⟩))
  (fun os started H enc _ F=>by rw[OpenClaim.pre_eq_preRow];exact lifted os started H enc F)
theorem plain (f:FuncId) (fn:Func) (hf:Tryz.pinned.checked.prog.funcNamed "weighbridge/weighbridgetop.TopTries" =some f) (hfn:Tryz.pinned.checked.prog.funcs[f]? =some fn):
  true=Tryz.pinned.checked.prog.looks []∧∀ (j:Nat) t,fn.params[j]? =some t→Tryz.pinned.checked.prog.wantsStandIn t=false:=by
 obtain rfl:f=3:=Option.some.inj ((show prog.funcNamed "weighbridge/weighbridgetop.TopTries" =some 3 by kernel_rfl).symm.trans hf) |>.symm
 obtain rfl:fn=Tryz.f3:=(Option.some.inj (func3.symm.trans hfn)).symm;refine⟨by kernel_rfl,fun j t ht=>?_⟩;rw[params3]at ht;have h1:t∈ [24,25,26,3]:=by simpa using Array.mem_of_getElem? ht
 have h2:([24,25,26,3]:List TypeId).all (fun t=>prog.wantsStandIn t==false)=true:=by kernel_rfl
 exact eq_of_beq (List.all_eq_true.1 h2 t h1)
end Go.Proofs.YtjnbbmgbmiggbaaGreatDoor.rowTopTries
namespace Go.Proofs.YtjnbbmgbmiggbaaGreatDoor
theorem topTries_card:Rows.TopTriesCardSaid:=
 Claim7.holds_tied_plain_at .later [] _ _ _ _ rowTopTries.said (fun _ h=>by cases h) (by kernel_rfl) (fun _ h=>by cases h) topTries_row_tie rfl ⟨rfl,rfl⟩ (by kernel_rfl) rfl rowTopTries.plain (by kernel_rfl)
#print axioms topTries_card
end Go.Proofs.YtjnbbmgbmiggbaaGreatDoor
