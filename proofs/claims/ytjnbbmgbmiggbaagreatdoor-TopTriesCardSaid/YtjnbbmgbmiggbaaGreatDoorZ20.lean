/- Lemmas for TopTries' card: between a Load of a word and its swap that is not done lies another one's swap. -/
import Derived.Test.YtjnbbmgbmiggbaaGreatDoorZ19
set_option linter.unusedSimpArgs false
set_option linter.unusedVariables false
set_option maxRecDepth 20000
set_option maxHeartbeats 4000000
namespace Go.Proofs.YtjnbbmgbmiggbaaGreatDoor
open Go Go.RowKit Go.Maps Go.Proofs.Tryz
theorem SQ (v:Int):0≤dL v∧dL v<4294967296:=by unfold dL;split<;>omega
section
variable {A:PA} {s:PS} {N:Nat} {E:jo}
theorem LU (now:Int) (hA:Aq A) (hN:N≤20000) (hP:jd s N) (hE:RInv A s E):jd (bC A s E now).s (N+1)∧((bC A s E now).d=false→RInv A (bC A s E now).s (bC A s E now).E)∧s.ob.length≤(bC A s E now).s.ob.length∧(bC A s E now).s.k=s.k∧(bC A s E now).E.who=E.who:=by
 have hm:=hP.m;have sl4:=hA.sl4;have sl1:=hA.sl1;have hoN:=hP.o hN;have hso:=SQ (fE s E)
 cases hst:E.st with
 |come=>
  rw[show bC A s E now=gK s E now by unfold bC;rw[hst]];have hc:E.st.coming=true:=by rw[hst];rfl
  have hsc:=hE.scan (.inl hst);unfold gK
  cases h1:(decide (E.c.flow<0)||decide (1048576<E.c.flow))with
  |true=>exact⟨hP.n _ _ _,fun h=>(by cases h),Nat.le_refl _,rfl,rfl⟩
  |false=>
   cases h2:(decide (E.c.a<1)||decide (65536<E.c.a))with
   |true=>exact⟨hP.n _ _ _,fun h=>(by cases h),Nat.le_refl _,rfl,rfl⟩
   |false=>
    have ha:1≤E.c.a∧E.c.a≤65536:=by simp only[Bool.or_eq_false_iff,decide_eq_false_iff_not]at h2;omega
    cases h3:(decide (E.c.b<1)||decide (8<E.c.b))with
    |true=>exact⟨hP.n _ _ _,fun h=>(by cases h),Nat.le_refl _,rfl,rfl⟩
    |false=>
     simp only[cond_false];unfold dI
     cases hk:decide (s.σ.num (ja E.shard)=0)with
     |true=>exact⟨hP.σ (hm.swap _ _ dC.one (fun e=>by simp at e) (fun e=>by simp at e)) (by rw[iy];omega),fun _=>{ who:=hE.who,sh:=hE.sh,i:=hE.i,scan:=fun _=>hsc,free:=hE.free,w:=hE.w,obj:=hE.obj,put:=fun h=>(by cases h),a:=fun _=>ha,none:=fun _=>hE.none hc,rg:=fun h=>(by cases h),r:=hE.r,flow:=hE.flow,at':=hE.at' },Nat.le_refl _,rfl,rfl⟩
     |false=>exact⟨hP.σ (hm.swap _ _ dC.one (fun e=>by simp at e) (fun e=>by simp at e)) (by rw[iy];omega),fun _=>{ who:=hE.who,sh:=hE.sh,i:=hE.i,scan:=fun _=>hsc,free:=hE.free,w:=hE.w,obj:=hE.obj,put:=fun h=>(by cases h),a:=fun _=>ha,none:=fun _=>hE.none hc,rg:=fun h=>(by cases h),r:=hE.r,flow:=hE.flow,at':=hE.at' },Nat.le_refl _,rfl,rfl⟩
 |enter=>
  rw[show bC A s E now=dI s E .search .enter by unfold bC;rw[hst]];have hc:E.st.coming=true:=by rw[hst];rfl
  have hsc:=hE.scan (.inr (.inl hst));have ha:=hE.a (.inl hst);unfold dI
  cases hk:decide (s.σ.num (ja E.shard)=0)with
  |true=>exact⟨hP.σ (hm.swap _ _ dC.one (fun e=>by simp at e) (fun e=>by simp at e)) (by rw[iy];omega),fun _=>{ who:=hE.who,sh:=hE.sh,i:=hE.i,scan:=fun _=>hsc,free:=hE.free,w:=hE.w,obj:=hE.obj,put:=fun h=>(by cases h),a:=fun _=>ha,none:=fun _=>hE.none hc,rg:=fun h=>(by cases h),r:=hE.r,flow:=hE.flow,at':=hE.at' },Nat.le_refl _,rfl,rfl⟩
  |false=>exact⟨hP.σ (hm.swap _ _ dC.one (fun e=>by simp at e) (fun e=>by simp at e)) (by rw[iy];omega),fun _=>{ who:=hE.who,sh:=hE.sh,i:=hE.i,scan:=fun _=>hsc,free:=hE.free,w:=hE.w,obj:=hE.obj,put:=fun h=>(by cases h),a:=fun _=>ha,none:=fun _=>hE.none hc,rg:=fun h=>(by cases h),r:=hE.r,flow:=hE.flow,at':=hE.at' },Nat.le_refl _,rfl,rfl⟩
 |search=>
  rw[show bC A s E now=fD s E A.sl now by unfold bC;rw[hst]];have hc:E.st.coming=true:=by rw[hst];rfl
  have hsc:=hE.scan (.inr (.inr (.inl hst)));have ha:=hE.a (.inr (.inl hst));have hfr: -1≤(ig s E).free∧(ig s E).free≤4:=by have h1:=hE.free;have h2:=hE.i;show -1≤cond _ E.i E.free∧cond _ E.i E.free≤4;cases (!jI (fE s E)&&decide (E.free<0))<;>simp only[cond_true,cond_false]<;>omega
  unfold fD
  cases hb:kC s E with
  |true=>exact⟨hP.σn (hm.put _ _ _) (by rw[aZ];omega) _ _ _,fun _=>{ who:=hE.who,sh:=hE.sh,i:=⟨(by have:=hE.i.1;show 0≤E.i+1;omega),(by show E.i+1≤4;omega)⟩,scan:=fun h=>(by rcases h with h|h|h|h|h|h<;>cases h),free:=hfr,w:=hE.w,obj:=hso,put:=fun h=>(by cases h),a:=fun h=>(by rcases h with h|h|h<;>cases h),none:=fun h=>(by cases h),rg:=fun h=>(by cases h),r:=hE.r,flow:=hE.flow,at':=⟨hE.i.1,hE.i.2⟩ },Nat.le_refl _,rfl,rfl⟩
  |false=>
   cases hl:oM E A.sl with
   |true=>
    cases hf:decide ((ig s E).free<0)with
    |true=>exact⟨hP.σn (hm.put _ _ _) (by rw[aZ];omega) _ _ _,fun _=>{ who:=hE.who,sh:=hE.sh,i:=⟨(by have:=hE.i.1;show 0≤E.i+1;omega),(by show E.i+1≤4;omega)⟩,scan:=fun h=>(by rcases h with h|h|h|h|h|h<;>cases h),free:=hfr,w:=hE.w,obj:=hso,put:=fun h=>(by cases h),a:=fun h=>(by rcases h with h|h|h<;>cases h),none:=fun h=>(by cases h),rg:=fun h=>(by cases h),r:=hE.r,flow:=hE.flow,at':=⟨hE.i.1,hE.i.2⟩ },Nat.le_refl _,rfl,rfl⟩
    |false=>exact⟨hP.σ (hm.put _ _ _) (by rw[aZ];omega),fun _=>{ who:=hE.who,sh:=hE.sh,i:=⟨(by have:=hE.i.1;show 0≤E.i+1;omega),(by show E.i+1≤4;omega)⟩,scan:=fun h=>(by rcases h with h|h|h|h|h|h<;>cases h),free:=hfr,w:=hE.w,obj:=hso,put:=fun h=>(by cases h),a:=fun _=>ha,none:=fun _=>hE.none hc,rg:=fun h=>(by cases h),r:=hE.r,flow:=hE.flow,at':=⟨hE.i.1,hE.i.2⟩ },Nat.le_refl _,rfl,rfl⟩
   |false=>exact⟨hP.σ (hm.put _ _ _) (by rw[aZ];omega),fun _=>{ who:=hE.who,sh:=hE.sh,i:=⟨(by have:=hE.i.1;show 0≤E.i+1;omega),(by show E.i+1≤4;omega)⟩,scan:=fun _=>(by have:=of_decide_eq_false hl;show E.i+1<A.sl;omega),free:=hfr,w:=hE.w,obj:=hso,put:=fun h=>(by cases h),a:=fun _=>ha,none:=fun _=>hE.none hc,rg:=fun h=>(by cases h),r:=hE.r,flow:=hE.flow,at':=⟨hE.i.1,hE.i.2⟩ },Nat.le_refl _,rfl,rfl⟩
 |make=>
  rw[show bC A s E now=kK s A E by unfold bC;rw[hst]];have hc:E.st.coming=true:=by rw[hst];rfl
  have hg:=SK A.un E.c.a hA.un2;refine⟨hP.next ?_ (by show(s.σ.put _ _ _).log.length≤_;rw[aZ];omega) (by simp[kK,nP,PS.make]) (by simp[kK,nP,PS.make]) (fun y hy=>?_) (fun q=>?_),fun _=>{ who:=hE.who,sh:=hE.sh,i:=hE.i,scan:=fun h=>(by rcases h with h|h|h|h|h|h<;>cases h),free:=hE.free,w:=hE.w,obj:=(by show 0≤(s.ob.length:Int)∧(s.ob.length:Int)<4294967296;omega),put:=fun _=>(by show 0≤(s.ob.length:Int)∧(s.ob.length:Int)<((s.ob++[_]).length:Nat);simp;omega),a:=fun h=>(by rcases h with h|h|h<;>cases h),none:=fun h=>(by cases h),rg:=fun h=>(by cases h),r:=fun i h=>(by rw[show(kK s A E).E.r=E.r from rfl,hE.none hc]at h;cases h),flow:=hE.flow,at':=hE.at' },(by simp[kK,nP,PS.make]),rfl,rfl⟩
  ·show vw (s.ob++[_]).length (s.σ.put _ _ _)
   exact(hm.put _ _ _).mono (by simp)
  ·rcases List.mem_append.1 hy with h|h
   ·exact hP.cs y h
   ·simp only[List.mem_singleton]at h
    subst h;have hz:=Vk E.c.b
    exact⟨by simp[zeros];omega,by simp[zeros];omega,hE.flow,hg,fun k hk=>by simp only[zeros,List.mem_replicate]at hk;rw[hk.2];simp[Pk.zero,I64]⟩
  ·have:=hP.nx q
   show 0≤s.nx q∧s.nx q≤((s.ob++[_]).length:Nat)
   simp
   omega
 |put=>
  rw[show bC A s E now=uG s E now by unfold bC;rw[hst]];have hp:=hE.put hst
  exact⟨hP.σn (hm.uf _ _ _ _ _ hp.2) (by have:=Po (σ:=s.σ) E.who E.shard E.free E.c.flow E.obj;omega) _ _ _,fun _=>{ who:=hE.who,sh:=hE.sh,i:=hE.i,scan:=fun h=>(by rcases h with h|h|h|h|h|h<;>cases h),free:=hE.free,w:=hE.w,obj:=hE.obj,put:=fun h=>(by cases h),a:=fun h=>(by rcases h with h|h|h<;>cases h),none:=fun h=>(by cases h),rg:=fun h=>(by cases h),r:=hE.r,flow:=hE.flow,at':=hE.at' },Nat.le_refl _,rfl,rfl⟩
 |out=>
  rw[show bC A s E now=uH s E by unfold bC;rw[hst]]
  exact⟨hP.σ ((hm.put _ _ _).set' dC.zero (by simp) (by simp)) (by rw[gy,aZ];omega),fun h=>(by cases h),Nat.le_refl _,rfl,rfl⟩
 |leave=>
  rw[show bC A s E now=iP s E now by unfold bC;rw[hst]];have hsc:=hE.scan (.inr (.inr (.inr (.inl hst))));unfold iP
  cases h1:(decide (E.c.flow<0)||decide (1048576<E.c.flow))with
  |true=>exact⟨hP.n _ _ _,fun h=>(by cases h),Nat.le_refl _,rfl,rfl⟩
  |false=>
   simp only[cond_false];unfold dI
   cases hk:decide (s.σ.num (ja E.shard)=0)with
   |true=>exact⟨hP.σ (hm.swap _ _ dC.one (fun e=>by simp at e) (fun e=>by simp at e)) (by rw[iy];omega),fun _=>{ who:=hE.who,sh:=hE.sh,i:=hE.i,scan:=fun _=>hsc,free:=hE.free,w:=hE.w,obj:=hE.obj,put:=fun h=>(by cases h),a:=fun h=>(by rcases h with h|h|h<;>cases h),none:=fun h=>(by cases h),rg:=fun h=>(by cases h),r:=hE.r,flow:=hE.flow,at':=hE.at' },Nat.le_refl _,rfl,rfl⟩
   |false=>exact⟨hP.σ (hm.swap _ _ dC.one (fun e=>by simp at e) (fun e=>by simp at e)) (by rw[iy];omega),fun _=>{ who:=hE.who,sh:=hE.sh,i:=hE.i,scan:=fun _=>hsc,free:=hE.free,w:=hE.w,obj:=hE.obj,put:=fun h=>(by cases h),a:=fun h=>(by rcases h with h|h|h<;>cases h),none:=fun h=>(by cases h),rg:=fun h=>(by cases h),r:=hE.r,flow:=hE.flow,at':=hE.at' },Nat.le_refl _,rfl,rfl⟩
 |lock=>
  rw[show bC A s E now=dI s E .find .lock by unfold bC;rw[hst]];have hsc:=hE.scan (.inr (.inr (.inr (.inr (.inl hst)))));unfold dI
  cases hk:decide (s.σ.num (ja E.shard)=0)with
  |true=>exact⟨hP.σ (hm.swap _ _ dC.one (fun e=>by simp at e) (fun e=>by simp at e)) (by rw[iy];omega),fun _=>{ who:=hE.who,sh:=hE.sh,i:=hE.i,scan:=fun _=>hsc,free:=hE.free,w:=hE.w,obj:=hE.obj,put:=fun h=>(by cases h),a:=fun h=>(by rcases h with h|h|h<;>cases h),none:=fun h=>(by cases h),rg:=fun h=>(by cases h),r:=hE.r,flow:=hE.flow,at':=hE.at' },Nat.le_refl _,rfl,rfl⟩
  |false=>exact⟨hP.σ (hm.swap _ _ dC.one (fun e=>by simp at e) (fun e=>by simp at e)) (by rw[iy];omega),fun _=>{ who:=hE.who,sh:=hE.sh,i:=hE.i,scan:=fun _=>hsc,free:=hE.free,w:=hE.w,obj:=hE.obj,put:=fun h=>(by cases h),a:=fun h=>(by rcases h with h|h|h<;>cases h),none:=fun h=>(by cases h),rg:=fun h=>(by cases h),r:=hE.r,flow:=hE.flow,at':=hE.at' },Nat.le_refl _,rfl,rfl⟩
 |find=>
  rw[show bC A s E now=jD s E A.sl now by unfold bC;rw[hst]];have hsc:=hE.scan (.inr (.inr (.inr (.inr (.inr hst)))));have hfr: -1≤(ig s E).free∧(ig s E).free≤4:=by have h1:=hE.free;have h2:=hE.i;show -1≤cond _ E.i E.free∧cond _ E.i E.free≤4;cases (!jI (fE s E)&&decide (E.free<0))<;>simp only[cond_true,cond_false]<;>omega
  unfold jD
  cases hb:kC s E with
  |true=>
   have hv:jI (fE s E)=true:=by unfold kC at hb;simp only[Bool.and_eq_true]at hb;exact hb.1
   have hlt:=hP.slot _ _ hv;have h2:0≤dL (fE s E):=hlt.1;have h3:dL (fE s E)<s.ob.length:=hlt.2
   exact⟨hP.σ (hm.put _ _ _) (by rw[aZ];omega),fun _=>{ who:=hE.who,sh:=hE.sh,i:=⟨(by have:=hE.i.1;show 0≤E.i+1;omega),(by show E.i+1≤4;omega)⟩,scan:=fun h=>(by rcases h with h|h|h|h|h|h<;>cases h),free:=hfr,w:=hE.w,obj:=hso,put:=fun h=>(by cases h),a:=fun h=>(by rcases h with h|h|h<;>cases h),none:=fun h=>(by cases h),rg:=fun _=>⟨_,rfl⟩,r:=fun i h=>(by cases h;show(dL (fE s E)).toNat<s.ob.length;omega),flow:=hE.flow,at':=⟨hE.i.1,hE.i.2⟩ },Nat.le_refl _,rfl,rfl⟩
  |false=>
   cases hl:oM E A.sl with
   |true=>exact⟨hP.σn (hm.put _ _ _) (by rw[aZ];omega) _ _ _,fun _=>{ who:=hE.who,sh:=hE.sh,i:=⟨(by have:=hE.i.1;show 0≤E.i+1;omega),(by show E.i+1≤4;omega)⟩,scan:=fun h=>(by rcases h with h|h|h|h|h|h<;>cases h),free:=hfr,w:=hE.w,obj:=hso,put:=fun h=>(by cases h),a:=fun h=>(by rcases h with h|h|h<;>cases h),none:=fun h=>(by cases h),rg:=fun h=>(by cases h),r:=hE.r,flow:=hE.flow,at':=⟨hE.i.1,hE.i.2⟩ },Nat.le_refl _,rfl,rfl⟩
   |false=>exact⟨hP.σ (hm.put _ _ _) (by rw[aZ];omega),fun _=>{ who:=hE.who,sh:=hE.sh,i:=⟨(by have:=hE.i.1;show 0≤E.i+1;omega),(by show E.i+1≤4;omega)⟩,scan:=fun _=>(by have:=of_decide_eq_false hl;show E.i+1<A.sl;omega),free:=hfr,w:=hE.w,obj:=hso,put:=fun h=>(by cases h),a:=fun h=>(by rcases h with h|h|h<;>cases h),none:=fun h=>(by cases h),rg:=fun h=>(by cases h),r:=hE.r,flow:=hE.flow,at':=⟨hE.i.1,hE.i.2⟩ },Nat.le_refl _,rfl,rfl⟩
 |word=>
  rw[show bC A s E now=kV s E by unfold bC;rw[hst]];have hr:E.st.rg=true:=by rw[hst];rfl
  unfold kV
  cases hb:(wst (qw s E)==0)with
  |true=>exact⟨hP.σ (hm.put _ _ _) (by rw[aZ];omega),fun _=>{ who:=hE.who,sh:=hE.sh,i:=hE.i,scan:=fun h=>(by rcases h with h|h|h|h|h|h<;>cases h),free:=hE.free,w:=hP.u _,obj:=hE.obj,put:=fun h=>(by cases h),a:=fun h=>(by rcases h with h|h|h<;>cases h),none:=fun h=>(by cases h),rg:=fun _=>hE.rg hr,r:=hE.r,flow:=hE.flow,at':=hE.at' },Nat.le_refl _,rfl,rfl⟩
  |false=>exact⟨hP.σ (hm.put _ _ _) (by rw[aZ];omega),fun _=>{ who:=hE.who,sh:=hE.sh,i:=hE.i,scan:=fun h=>(by rcases h with h|h|h|h|h|h<;>cases h),free:=hE.free,w:=hP.u _,obj:=hE.obj,put:=fun h=>(by cases h),a:=fun h=>(by rcases h with h|h|h<;>cases h),none:=fun h=>(by cases h),rg:=fun _=>hE.rg hr,r:=hE.r,flow:=hE.flow,at':=hE.at' },Nat.le_refl _,rfl,rfl⟩
 |seq=>
  rw[show bC A s E now=og s E by unfold bC;rw[hst]];have hr:E.st.rg=true:=by rw[hst];rfl
  unfold og
  cases hb:((s.σ.num gm).tmod 2==1)with
  |true=>exact⟨hP.σ (hm.put _ _ _) (by rw[aZ];omega),fun _=>{ who:=hE.who,sh:=hE.sh,i:=hE.i,scan:=fun h=>(by rcases h with h|h|h|h|h|h<;>cases h),free:=hE.free,w:=hE.w,obj:=hE.obj,put:=fun h=>(by cases h),a:=fun h=>(by rcases h with h|h|h<;>cases h),none:=fun h=>(by cases h),rg:=fun _=>hE.rg hr,r:=hE.r,flow:=hE.flow,at':=hE.at' },Nat.le_refl _,rfl,rfl⟩
  |false=>exact⟨hP.σ (hm.put _ _ _) (by rw[aZ];omega),fun _=>{ who:=hE.who,sh:=hE.sh,i:=hE.i,scan:=fun h=>(by rcases h with h|h|h|h|h|h<;>cases h),free:=hE.free,w:=hE.w,obj:=hE.obj,put:=fun h=>(by cases h),a:=fun h=>(by rcases h with h|h|h<;>cases h),none:=fun h=>(by cases h),rg:=fun _=>hE.rg hr,r:=hE.r,flow:=hE.flow,at':=hE.at' },Nat.le_refl _,rfl,rfl⟩
 |wordAgain=>
  rw[show bC A s E now=dU s E now by unfold bC;rw[hst]];have hr:E.st.rg=true:=by rw[hst];rfl
  unfold dU
  cases hb:(wst (qw s E)==0)with
  |true=>exact⟨hP.σ (hm.put _ _ _) (by rw[aZ];omega),fun _=>{ who:=hE.who,sh:=hE.sh,i:=hE.i,scan:=fun h=>(by rcases h with h|h|h|h|h|h<;>cases h),free:=hE.free,w:=hP.u _,obj:=hE.obj,put:=fun h=>(by cases h),a:=fun h=>(by rcases h with h|h|h<;>cases h),none:=fun h=>(by cases h),rg:=fun _=>hE.rg hr,r:=hE.r,flow:=hE.flow,at':=hE.at' },Nat.le_refl _,rfl,rfl⟩
  |false=>exact⟨hP.σ (hm.put _ _ _) (by rw[aZ];omega),fun _=>{ who:=hE.who,sh:=hE.sh,i:=hE.i,scan:=fun h=>(by rcases h with h|h|h|h|h|h<;>cases h),free:=hE.free,w:=hP.u _,obj:=hE.obj,put:=fun h=>(by cases h),a:=fun h=>(by rcases h with h|h|h<;>cases h),none:=fun h=>(by cases h),rg:=fun _=>hE.rg hr,r:=hE.r,flow:=hE.flow,at':=hE.at' },Nat.le_refl _,rfl,rfl⟩
 |seqAgain=>
  rw[show bC A s E now=eG s E by unfold bC;rw[hst]];have hr:E.st.rg=true:=by rw[hst];rfl
  unfold eG
  cases hb:(s.σ.num gm==E.q)with
  |true=>exact⟨hP.σn (hm.put _ _ _) (by rw[aZ];omega) _ _ _,fun _=>{ who:=hE.who,sh:=hE.sh,i:=hE.i,scan:=fun h=>(by rcases h with h|h|h|h|h|h<;>cases h),free:=hE.free,w:=hE.w,obj:=hE.obj,put:=fun h=>(by cases h),a:=fun h=>(by rcases h with h|h|h<;>cases h),none:=fun h=>(by cases h),rg:=fun h=>(by cases h),r:=hE.r,flow:=hE.flow,at':=hE.at' },Nat.le_refl _,rfl,rfl⟩
  |false=>exact⟨hP.σ (hm.put _ _ _) (by rw[aZ];omega),fun _=>{ who:=hE.who,sh:=hE.sh,i:=hE.i,scan:=fun h=>(by rcases h with h|h|h|h|h|h<;>cases h),free:=hE.free,w:=hE.w,obj:=hE.obj,put:=fun h=>(by cases h),a:=fun h=>(by rcases h with h|h|h<;>cases h),none:=fun h=>(by cases h),rg:=fun _=>hE.rg hr,r:=hE.r,flow:=hE.flow,at':=hE.at' },Nat.le_refl _,rfl,rfl⟩
 |shut=>
  rw[show bC A s E now=kM s E now by unfold bC;rw[hst]];have hr:E.st.rg=true:=by rw[hst];rfl
  unfold kM
  cases hb:s.σ.turned (E.ri:Nat) 2 E.w with
  |true=>exact⟨hP.σn (hm.turn _ _ _ _) (by have:=nM (σ:=s.σ) E.who (E.ri:Nat) 2 E.w;omega) _ _ _,fun _=>{ who:=hE.who,sh:=hE.sh,i:=hE.i,scan:=fun h=>(by rcases h with h|h|h|h|h|h<;>cases h),free:=hE.free,w:=hE.w,obj:=hE.obj,put:=fun h=>(by cases h),a:=fun h=>(by rcases h with h|h|h<;>cases h),none:=fun h=>(by cases h),rg:=fun h=>(by cases h),r:=hE.r,flow:=hE.flow,at':=hE.at' },Nat.le_refl _,rfl,rfl⟩
  |false=>exact⟨hP.σ (hm.turn _ _ _ _) (by have:=nM (σ:=s.σ) E.who (E.ri:Nat) 2 E.w;omega),fun _=>{ who:=hE.who,sh:=hE.sh,i:=hE.i,scan:=fun h=>(by rcases h with h|h|h|h|h|h<;>cases h),free:=hE.free,w:=hE.w,obj:=hE.obj,put:=fun h=>(by cases h),a:=fun h=>(by rcases h with h|h|h<;>cases h),none:=fun h=>(by cases h),rg:=fun _=>hE.rg hr,r:=hE.r,flow:=hE.flow,at':=hE.at' },Nat.le_refl _,rfl,rfl⟩
 |clear=>
  rw[show bC A s E now=mW s E by unfold bC;rw[hst]]
  exact⟨hP.σ ((hm.put _ _ _).set dC.zero (fun _ h=>by simp[jI]at h) (fun e=>by simp at e)) (by rw[gy,aZ];omega),fun _=>{ who:=hE.who,sh:=hE.sh,i:=hE.i,scan:=fun h=>(by rcases h with h|h|h|h|h|h<;>cases h),free:=hE.free,w:=hE.w,obj:=hE.obj,put:=fun h=>(by cases h),a:=fun h=>(by rcases h with h|h|h<;>cases h),none:=fun h=>(by cases h),rg:=fun h=>(by cases h),r:=hE.r,flow:=hE.flow,at':=hE.at' },Nat.le_refl _,rfl,rfl⟩
end
theorem UM (c:Cl) (h:vH c=0):1≤CZ c∧CZ c≤16:=by
 unfold vH at h;unfold CZ
 cases h4:(c.op==4)<;>cases h5:(c.op==5)<;>cases hb:(decide (c.a<1)||decide (16<c.a))<;>simp only[h4,h5,hb,cond_true,cond_false]at h ⊢ <;>first|omega|(simp only[Bool.or_eq_false_iff,decide_eq_false_iff_not]at hb;omega)
theorem oL.keep {wd m:Nat} {s s':PS} (h:oL wd s m) (hk:s'.k=s.k) (ho:s.ob.length≤s'.ob.length):oL wd s' m:=
 ⟨by rw[hk];exact h.k,fun i=>by rw[hk];exact(h.ow i).imp (fun h=>h.mono ho) id,fun e=>by rw[hk];exact h.nil (List.eq_nil_of_length_eq_zero (by rw[e]at ho;simpa using ho))⟩
theorem rY.le {k:Co} {m n:Nat} (h:rY k m) (hm:m≤n):rY k n:=⟨⟨h.q.pos,h.q.most,h.q.tour,h.q.leaves,fun s hs=>(h.q.sh s hs).le' hm⟩,h.v,h.most,h.th,h.ow,h.last,by have:=h.served;omega⟩
theorem JV {wd m:Nat} {k:Co} (h:rY k m) {y:Int×Nat} (hp:(k.pick wd).2=some y):y.2<18446744073709551616:=by
 unfold Co.pick at hp
 split at hp
 ·cases hp
 ·rename_i x _
  simp only[Option.some.injEq]at hp;rw[←hp]
  exact(h.th (k.ow x.id)).2.2.2
theorem RI (wd:Nat) (k:Co) (size:Int) (more:Bool) (i:Int):(k.done wd size more).ow i=k.ow i:=by
 unfold Co.done
 split
 ·rfl
 ·rfl
section
variable {A:PA} {s:PS} {N m:Nat} {E:eQ}
theorem zZ (now:Int) (hA:Aq A) (hN:N≤20000) (hP:jd s N) (hK:oL A.wd s m) (hE:xh A s N E):jd (aT A s E now).s (N+1)∧((aT A s E now).d=false→xh A (aT A s E now).s (N+1) (aT A s E now).E)∧(aT A s E now).s.ob.length=s.ob.length∧(∃ m',oL A.wd (aT A s E now).s m'∧m'+(aT A s E now).E.woken.length≤m+E.woken.length+1)∧(aT A s E now).E.who=E.who:=by
 have hm:=hP.m;have wk1:=hA.wk1;have wk6:=hA.wk6;have sh1:=hA.sh1;have sh4:=hA.sh4;have hoN:=hP.o hN;have K0:∀ (s':PS) (E':eQ),s'.k=s.k→s'.ob.length=s.ob.length→E'.woken.length≤E.woken.length+1→∃ m',oL A.wd s' m'∧m'+E'.woken.length≤m+E.woken.length+1:=fun s' E' h1 h2 h3=>⟨m,hK.keep h1 (by omega),by omega⟩
 have rgo:E.st.rg=true→s.ob≠ []:=fun h e=>by
  obtain⟨i,hi⟩:=hE.rg h
  have:=hE.r i hi
  rw[e]at this
  simp at this
 cases hst:E.st with
 |write=>
  rw[show aT A s E now=lY s E by unfold aT;rw[hst]]
  exact⟨hP.next (hm.put _ _ _) (by show(s.σ.put _ _ _).log.length≤_;rw[aZ];omega) (by simp[lY,xy]) (by simp[lY,xy]) hP.cs hP.nx,fun _=>{ who:=hE.who,j:=hE.j,js:=fun h=>(by cases h),left:=hE.left,lp:=fun h=>(by cases h),sh:=hE.sh,shs:=fun h=>(by rcases h with h|h|h<;>cases h),obj:=fun h=>(by rcases h with h|h<;>cases h),link:=hE.link,woken:=hE.woken,wl:=Nat.le_succ_of_le hE.wl,pk:=Nat.le_succ_of_le hE.pk,n:=hE.n,w:=hE.w,x:=hE.x,rg:=fun h=>(by cases h),r:=hE.r },rfl,K0 _ _ rfl rfl (Nat.le_succ _),rfl⟩
 |send=>
  rw[show aT A s E now=qE s E by unfold aT;rw[hst]]
  exact⟨hP.σ ((hm.put _ _ _).set' (dC.one) (by simp) (by simp)) (by rw[gy,aZ];omega),fun _=>{ who:=hE.who,j:=hE.j,js:=fun h=>(by cases h),left:=hE.left,lp:=fun h=>(by cases h),sh:=hE.sh,shs:=fun h=>(by rcases h with h|h|h<;>cases h),obj:=fun h=>(by rcases h with h|h<;>cases h),link:=hE.link,woken:=hE.woken,wl:=Nat.le_succ_of_le hE.wl,pk:=Nat.le_succ_of_le hE.pk,n:=hE.n,w:=hE.w,x:=hE.x,rg:=fun h=>(by cases h),r:=hE.r },rfl,K0 _ _ rfl rfl (Nat.le_succ _),rfl⟩
 |try'=>
  rw[show aT A s E now=lZ s E by unfold aT;rw[hst]];unfold lZ
  cases hb:decide (s.σ.num iG=0)with
  |true=>exact⟨hP.σ (hm.swap _ _ dC.one (fun e=>by simp at e) (fun e=>by simp at e)) (by rw[iy];omega),fun _=>{ who:=hE.who,j:=⟨(by simp),(by simp)⟩,js:=fun _=>(by show(0:Int)<A.wk;omega),left:=hE.left,lp:=fun h=>(by cases h),sh:=hE.sh,shs:=fun h=>(by rcases h with h|h|h<;>cases h),obj:=fun h=>(by rcases h with h|h<;>cases h),link:=hE.link,woken:=hE.woken,wl:=Nat.le_succ_of_le hE.wl,pk:=Nat.le_succ_of_le hE.pk,n:=hE.n,w:=hE.w,x:=hE.x,rg:=fun h=>(by cases h),r:=hE.r },rfl,K0 _ _ rfl rfl (Nat.le_succ _),rfl⟩
  |false=>exact⟨hP.σ (hm.swap _ _ dC.one (fun e=>by simp at e) (fun e=>by simp at e)) (by rw[iy];omega),fun _=>{ who:=hE.who,j:=hE.j,js:=fun h=>(by cases h),left:=hE.left,lp:=fun h=>(by cases h),sh:=hE.sh,shs:=fun h=>(by rcases h with h|h|h<;>cases h),obj:=fun h=>(by rcases h with h|h<;>cases h),link:=hE.link,woken:=hE.woken,wl:=Nat.le_succ_of_le hE.wl,pk:=Nat.le_succ_of_le hE.pk,n:=hE.n,w:=hE.w,x:=hE.x,rg:=fun h=>(by cases h),r:=hE.r },rfl,K0 _ _ rfl rfl (Nat.le_succ _),rfl⟩
 |wait=>
  rw[show aT A s E now=lL s E by unfold aT;rw[hst]];unfold lL
  cases hb:(s.σ.num (fP E.who)==2)with
  |true=>exact⟨hP.σ (hm.put _ _ _) (by rw[aZ];omega),fun _=>{ who:=hE.who,j:=hE.j,js:=fun h=>(by cases h),left:=hE.left,lp:=fun h=>(by cases h),sh:=hE.sh,shs:=fun h=>(by rcases h with h|h|h<;>cases h),obj:=fun h=>(by rcases h with h|h<;>cases h),link:=hE.link,woken:=hE.woken,wl:=Nat.le_succ_of_le hE.wl,pk:=Nat.le_succ_of_le hE.pk,n:=hE.n,w:=hE.w,x:=hE.x,rg:=fun h=>(by cases h),r:=hE.r },rfl,K0 _ _ rfl rfl (Nat.le_succ _),rfl⟩
  |false=>exact⟨hP.σ (hm.put _ _ _) (by rw[aZ];omega),fun _=>{ who:=hE.who,j:=hE.j,js:=fun h=>(by cases h),left:=hE.left,lp:=fun h=>(by cases h),sh:=hE.sh,shs:=fun h=>(by rcases h with h|h|h<;>cases h),obj:=fun h=>(by rcases h with h|h<;>cases h),link:=hE.link,woken:=hE.woken,wl:=Nat.le_succ_of_le hE.wl,pk:=Nat.le_succ_of_le hE.pk,n:=hE.n,w:=hE.w,x:=hE.x,rg:=fun h=>(by cases h),r:=hE.r },rfl,K0 _ _ rfl rfl (Nat.le_succ _),rfl⟩
 |result=>
  rw[show aT A s E now=⟨qY s E,E,true⟩ by unfold aT;rw[hst]]
  exact⟨hP.σ (hm.put _ _ _) (by rw[aZ];omega),fun h=>(by cases h),rfl,K0 _ _ rfl rfl (Nat.le_succ _),rfl⟩
 |state=>
  rw[show aT A s E now=iM s E A.wk by unfold aT;rw[hst]];have hs:E.st.serves=true:=by rw[hst];rfl
  unfold iM
  cases hc:(s.σ.num (fP E.j)==1)with
  |true=>exact⟨hP.σ (hm.put _ _ _) (by rw[aZ];omega),fun _=>{ who:=hE.who,j:=hE.j,js:=fun _=>hE.js hs,left:=hE.left,lp:=fun h=>(by cases h),sh:=hE.sh,shs:=fun h=>(by rcases h with h|h|h<;>cases h),obj:=fun h=>(by rcases h with h|h<;>cases h),link:=hE.link,woken:=hE.woken,wl:=Nat.le_succ_of_le hE.wl,pk:=Nat.le_succ_of_le hE.pk,n:=hE.n,w:=hE.w,x:=hE.x,rg:=fun h=>(by cases h),r:=hE.r },rfl,K0 _ _ rfl rfl (Nat.le_succ _),rfl⟩
  |false=>
   simp only[cond_false];unfold fG
   cases hb:decide ((A.wk:Int)≤E.j+1)with
   |true=>exact⟨hP.σ (hm.put _ _ _) (by rw[aZ];omega),fun _=>{ who:=hE.who,j:=⟨(by have:=hE.j;show 0≤E.j+1;omega),(by have:=hE.js hs;show E.j+1≤6;omega)⟩,js:=fun h=>(by cases h),left:=hE.left,lp:=fun h=>(by cases h),sh:=hE.sh,shs:=fun h=>(by rcases h with h|h|h<;>cases h),obj:=fun h=>(by rcases h with h|h<;>cases h),link:=hE.link,woken:=hE.woken,wl:=Nat.le_succ_of_le hE.wl,pk:=Nat.le_succ_of_le hE.pk,n:=hE.n,w:=hE.w,x:=hE.x,rg:=fun h=>(by cases h),r:=hE.r },rfl,K0 _ _ rfl rfl (Nat.le_succ _),rfl⟩
   |false=>exact⟨hP.σ (hm.put _ _ _) (by rw[aZ];omega),fun _=>{ who:=hE.who,j:=⟨(by have:=hE.j;show 0≤E.j+1;omega),(by have:=hE.js hs;show E.j+1≤6;omega)⟩,js:=fun _=>(by have:=of_decide_eq_false hb;show E.j+1<A.wk;omega),left:=hE.left,lp:=fun h=>(by cases h),sh:=hE.sh,shs:=fun h=>(by rcases h with h|h|h<;>cases h),obj:=fun h=>(by rcases h with h|h<;>cases h),link:=hE.link,woken:=hE.woken,wl:=Nat.le_succ_of_le hE.wl,pk:=Nat.le_succ_of_le hE.pk,n:=hE.n,w:=hE.w,x:=hE.x,rg:=fun h=>(by cases h),r:=hE.r },rfl,K0 _ _ rfl rfl (Nat.le_succ _),rfl⟩
 |arg=>
  rw[show aT A s E now=lC s E now by unfold aT;rw[hst]];have hs:E.st.serves=true:=by rw[hst];rfl
  unfold lC
  cases hc:((mr s E).op==6)with
  |true=>exact⟨hP.σ (hm.put _ _ _) (by rw[aZ];omega),fun _=>{ who:=hE.who,j:=hE.j,js:=fun _=>hE.js hs,left:=hE.left,lp:=fun h=>(by cases h),sh:=hE.sh,shs:=fun h=>(by rcases h with h|h|h<;>cases h),obj:=fun h=>(by rcases h with h|h<;>cases h),link:=hE.link,woken:=hE.woken,wl:=Nat.le_succ_of_le hE.wl,pk:=Nat.zero_le _,n:=hE.n,w:=hE.w,x:=hE.x,rg:=fun h=>(by cases h),r:=hE.r },rfl,K0 _ _ rfl rfl (Nat.le_succ _),rfl⟩
  |false=>
   cases hc2:(vH (mr s E)==0)with
   |true=>
    have hb:=UM (mr s E) (by simpa using hc2)
    exact⟨hP.σ (hm.put _ _ _) (by rw[aZ];omega),fun _=>{ who:=hE.who,j:=hE.j,js:=fun _=>hE.js hs,left:=⟨(by show 0≤CZ (mr s E);omega),hb.2⟩,lp:=fun _=>hb.1,sh:=hE.sh,shs:=fun h=>(by rcases h with h|h|h<;>cases h),obj:=fun h=>(by rcases h with h|h<;>cases h),link:=hE.link,woken:=hE.woken,wl:=Nat.le_succ_of_le hE.wl,pk:=Nat.zero_le _,n:=hE.n,w:=hE.w,x:=hE.x,rg:=fun h=>(by cases h),r:=hE.r },rfl,K0 _ _ rfl rfl (Nat.le_succ _),rfl⟩
   |false=>exact⟨hP.σn (hm.put _ _ _) (by rw[aZ];omega) _ _ _,fun _=>{ who:=hE.who,j:=hE.j,js:=fun _=>hE.js hs,left:=hE.left,lp:=fun h=>(by cases h),sh:=hE.sh,shs:=fun h=>(by rcases h with h|h|h<;>cases h),obj:=fun h=>(by rcases h with h|h<;>cases h),link:=hE.link,woken:=hE.woken,wl:=Nat.le_succ_of_le hE.wl,pk:=Nat.zero_le _,n:=hE.n,w:=hE.w,x:=hE.x,rg:=fun h=>(by cases h),r:=hE.r },rfl,K0 _ _ rfl rfl (Nat.le_succ _),rfl⟩
 |look=>
  rw[show aT A s E now=pK s E now by unfold aT;rw[hst]];have hs:E.st.serves=true:=by rw[hst];rfl
  exact⟨hP.σn (hm.put _ _ _) (by rw[aZ];omega) _ _ _,fun _=>{ who:=hE.who,j:=hE.j,js:=fun _=>hE.js hs,left:=hE.left,lp:=fun h=>(by cases h),sh:=hE.sh,shs:=fun h=>(by rcases h with h|h|h<;>cases h),obj:=fun h=>(by rcases h with h|h<;>cases h),link:=hE.link,woken:=hE.woken,wl:=Nat.le_succ_of_le hE.wl,pk:=Nat.zero_le _,n:=hE.n,w:=hE.w,x:=hE.x,rg:=fun h=>(by cases h),r:=hE.r },rfl,K0 _ _ rfl rfl (Nat.le_succ _),rfl⟩
 |answer=>
  rw[show aT A s E now=jy s E by unfold aT;rw[hst]];have hs:E.st.serves=true:=by rw[hst];rfl
  exact⟨hP.next (hm.put _ _ _) (by show(s.σ.put _ _ _).log.length≤_;rw[aZ];omega) (by simp[jy,uq]) (by simp[jy,uq]) hP.cs hP.nx,fun _=>{ who:=hE.who,j:=hE.j,js:=fun _=>hE.js hs,left:=hE.left,lp:=fun h=>(by cases h),sh:=hE.sh,shs:=fun h=>(by rcases h with h|h|h<;>cases h),obj:=fun h=>(by rcases h with h|h<;>cases h),link:=hE.link,woken:=hE.woken,wl:=Nat.le_succ_of_le hE.wl,pk:=Nat.le_succ_of_le hE.pk,n:=hE.n,w:=hE.w,x:=hE.x,rg:=fun h=>(by cases h),r:=hE.r },rfl,K0 _ _ rfl rfl (Nat.le_succ _),rfl⟩
 |ready=>
  rw[show aT A s E now=lW s E A.wk by unfold aT;rw[hst]];have hs:E.st.serves=true:=by rw[hst];rfl
  unfold lW;unfold fG
  cases hb:decide ((A.wk:Int)≤E.j+1)with
  |true=>exact⟨hP.σ ((hm.put _ _ _).set' (dC.two) (by simp) (by simp)) (by rw[gy,aZ];omega),fun _=>{ who:=hE.who,j:=⟨(by have:=hE.j;show 0≤E.j+1;omega),(by have:=hE.js hs;show E.j+1≤6;omega)⟩,js:=fun h=>(by cases h),left:=hE.left,lp:=fun h=>(by cases h),sh:=hE.sh,shs:=fun h=>(by rcases h with h|h|h<;>cases h),obj:=fun h=>(by rcases h with h|h<;>cases h),link:=hE.link,woken:=hE.woken,wl:=Nat.le_succ_of_le hE.wl,pk:=Nat.le_succ_of_le hE.pk,n:=hE.n,w:=hE.w,x:=hE.x,rg:=fun h=>(by cases h),r:=hE.r },rfl,K0 _ _ rfl rfl (Nat.le_succ _),rfl⟩
  |false=>exact⟨hP.σ ((hm.put _ _ _).set' (dC.two) (by simp) (by simp)) (by rw[gy,aZ];omega),fun _=>{ who:=hE.who,j:=⟨(by have:=hE.j;show 0≤E.j+1;omega),(by have:=hE.js hs;show E.j+1≤6;omega)⟩,js:=fun _=>(by have:=of_decide_eq_false hb;show E.j+1<A.wk;omega),left:=hE.left,lp:=fun h=>(by cases h),sh:=hE.sh,shs:=fun h=>(by rcases h with h|h|h<;>cases h),obj:=fun h=>(by rcases h with h|h<;>cases h),link:=hE.link,woken:=hE.woken,wl:=Nat.le_succ_of_le hE.wl,pk:=Nat.le_succ_of_le hE.pk,n:=hE.n,w:=hE.w,x:=hE.x,rg:=fun h=>(by cases h),r:=hE.r },rfl,K0 _ _ rfl rfl (Nat.le_succ _),rfl⟩
 |leave=>
  rw[show aT A s E now=oC s E by unfold aT;rw[hst]]
  exact⟨hP.σ ((hm.put _ _ _).set' (dC.zero) (by simp) (by simp)) (by rw[gy,aZ];omega),fun _=>{ who:=hE.who,j:=hE.j,js:=fun h=>(by cases h),left:=hE.left,lp:=fun h=>(by cases h),sh:=hE.sh,shs:=fun h=>(by rcases h with h|h|h<;>cases h),obj:=fun h=>(by rcases h with h|h<;>cases h),link:=hE.link,woken:=hE.woken,wl:=Nat.le_succ_of_le hE.wl,pk:=Nat.le_succ_of_le hE.pk,n:=hE.n,w:=hE.w,x:=hE.x,rg:=fun h=>(by cases h),r:=hE.r },rfl,K0 _ _ rfl rfl (Nat.le_succ _),rfl⟩
 |turn=>
  rw[show aT A s E now=qM s E by unfold aT;rw[hst]];have hs:E.st.serves=true:=by rw[hst];rfl
  have hp:E.st.part=true:=by rw[hst];rfl
  exact⟨hP.σ ((hm.put _ _ _).set' (dC.wrap _) (by simp) (by simp)) (by rw[gy,aZ];omega),fun _=>{ who:=hE.who,j:=hE.j,js:=fun _=>hE.js hs,left:=hE.left,lp:=fun _=>hE.lp hp,sh:=hE.sh,shs:=fun h=>(by rcases h with h|h|h<;>cases h),obj:=fun h=>(by rcases h with h|h<;>cases h),link:=hE.link,woken:=hE.woken,wl:=Nat.le_succ_of_le hE.wl,pk:=Nat.le_succ_of_le hE.pk,n:=hE.n,w:=hE.w,x:=hE.x,rg:=fun h=>(by cases h),r:=hE.r },rfl,K0 _ _ rfl rfl (Nat.le_succ _),rfl⟩
 |quiet=>
  rw[show aT A s E now=iO s E by unfold aT;rw[hst]];have hs:E.st.serves=true:=by rw[hst];rfl
  have hp:E.st.part=true:=by rw[hst];rfl
  unfold iO
  cases hb:wG (s.σ.num df)with
  |true=>exact⟨hP.σ (hm.put _ _ _) (by rw[aZ];omega),fun _=>{ who:=hE.who,j:=hE.j,js:=fun _=>hE.js hs,left:=hE.left,lp:=fun _=>hE.lp hp,sh:=⟨(by simp),(by simp)⟩,shs:=fun _=>(by show(0:Int)<A.sh;omega),obj:=fun h=>(by rcases h with h|h<;>cases h),link:=hE.link,woken:=hE.woken,wl:=Nat.le_succ_of_le hE.wl,pk:=Nat.le_succ_of_le hE.pk,n:=hE.n,w:=hE.w,x:=hE.x,rg:=fun h=>(by cases h),r:=hE.r },rfl,K0 _ _ rfl rfl (Nat.le_succ _),rfl⟩
  |false=>exact⟨hP.σ (hm.put _ _ _) (by rw[aZ];omega),fun _=>{ who:=hE.who,j:=hE.j,js:=fun _=>hE.js hs,left:=hE.left,lp:=fun _=>hE.lp hp,sh:=hE.sh,shs:=fun h=>(by rcases h with h|h|h<;>cases h),obj:=fun h=>(by rcases h with h|h<;>cases h),link:=hE.link,woken:=hE.woken,wl:=Nat.le_succ_of_le hE.wl,pk:=Nat.le_succ_of_le hE.pk,n:=hE.n,w:=hE.w,x:=hE.x,rg:=fun h=>(by cases h),r:=hE.r },rfl,K0 _ _ rfl rfl (Nat.le_succ _),rfl⟩
 |grab=>
  rw[show aT A s E now=jK s E A.sh by unfold aT;rw[hst]];have hs:E.st.serves=true:=by rw[hst];rfl
  have hp:E.st.part=true:=by rw[hst];rfl
  have hshs:=hE.shs (.inl hst);unfold jK
  cases hc:(s.σ.num (fB E.shard)==0)with
  |true=>
   simp only[cond_true];unfold dX
   cases hb:decide ((A.sh:Int)≤E.shard+1)with
   |true=>exact⟨hP.σ ((hm.put _ _ _).set dC.zero (fun e=>by simp at e) (fun _=>by omega)) (by rw[gy,aZ];omega),fun _=>{ who:=hE.who,j:=hE.j,js:=fun _=>hE.js hs,left:=hE.left,lp:=fun _=>hE.lp hp,sh:=⟨(by have:=hE.sh;show 0≤E.shard+1;omega),(by show E.shard+1≤4;omega)⟩,shs:=fun h=>(by rcases h with h|h|h<;>cases h),obj:=fun h=>(by rcases h with h|h<;>cases h),link:=hE.link,woken:=hE.woken,wl:=Nat.le_succ_of_le hE.wl,pk:=Nat.le_succ_of_le hE.pk,n:=hE.n,w:=hE.w,x:=hE.x,rg:=fun h=>(by cases h),r:=hE.r },rfl,K0 _ _ rfl rfl (Nat.le_succ _),rfl⟩
   |false=>exact⟨hP.σ ((hm.put _ _ _).set dC.zero (fun e=>by simp at e) (fun _=>by omega)) (by rw[gy,aZ];omega),fun _=>{ who:=hE.who,j:=hE.j,js:=fun _=>hE.js hs,left:=hE.left,lp:=fun _=>hE.lp hp,sh:=⟨(by have:=hE.sh;show 0≤E.shard+1;omega),(by show E.shard+1≤4;omega)⟩,shs:=fun _=>(by have h9:¬ (A.sh:Int)≤E.shard+1:=of_decide_eq_false hb;show E.shard+1<A.sh;omega),obj:=fun h=>(by rcases h with h|h<;>cases h),link:=hE.link,woken:=hE.woken,wl:=Nat.le_succ_of_le hE.wl,pk:=Nat.le_succ_of_le hE.pk,n:=hE.n,w:=hE.w,x:=hE.x,rg:=fun h=>(by cases h),r:=hE.r },rfl,K0 _ _ rfl rfl (Nat.le_succ _),rfl⟩
  |false=>
   have h0:=(hP.u (fB E.shard)).1;have h1:=hP.inb E.shard;have h2:s.σ.num (fB E.shard)≠0:=by simpa using hc
   exact⟨hP.σ ((hm.put _ _ _).set dC.zero (fun e=>by simp at e) (fun _=>by omega)) (by rw[gy,aZ];omega),fun _=>{ who:=hE.who,j:=hE.j,js:=fun _=>hE.js hs,left:=hE.left,lp:=fun _=>hE.lp hp,sh:=hE.sh,shs:=fun _=>hshs,obj:=fun _=>(by show 0≤s.σ.num (fB E.shard) - 1∧s.σ.num (fB E.shard) - 1<s.ob.length;omega),link:=hE.link,woken:=hE.woken,wl:=Nat.le_succ_of_le hE.wl,pk:=Nat.le_succ_of_le hE.pk,n:=hE.n,w:=hE.w,x:=hE.x,rg:=fun h=>(by cases h),r:=hE.r },rfl,K0 _ _ rfl rfl (Nat.le_succ _),rfl⟩
 |behind=>
  rw[show aT A s E now=mD s E by unfold aT;rw[hst]];have hs:E.st.serves=true:=by rw[hst];rfl
  have hp:E.st.part=true:=by rw[hst];rfl
  have hshs:=hE.shs (.inr (.inl hst));have ho:=hE.obj (.inl hst)
  exact⟨hP.σ (hm.put _ _ _) (by rw[aZ];omega),fun _=>{ who:=hE.who,j:=hE.j,js:=fun _=>hE.js hs,left:=hE.left,lp:=fun _=>hE.lp hp,sh:=hE.sh,shs:=fun _=>hshs,obj:=fun _=>ho,link:=hP.nx _,woken:=hE.woken,wl:=Nat.le_succ_of_le hE.wl,pk:=Nat.le_succ_of_le hE.pk,n:=hE.n,w:=hE.w,x:=hE.x,rg:=fun h=>(by cases h),r:=hE.r },rfl,K0 _ _ rfl rfl (Nat.le_succ _),rfl⟩
 |thing=>
  rw[show aT A s E now=fK s E A.sh by unfold aT;rw[hst]];have hs:E.st.serves=true:=by rw[hst];rfl
  have hp:E.st.part=true:=by rw[hst];rfl
  have hshs:=hE.shs (.inr (.inr hst));have ho:=hE.obj (.inr hst);have hwok:∀ y∈E.woken++[(E.obj,rC s E)],sU s y.1∧I64 y.2.flow∧y.2.r<18446744073709551616:=fun y hy=>by
   rcases List.mem_append.1 hy with h|h
   ·exact hE.woken y h
   ·simp only[List.mem_singleton]at h
    subst h;have hl:E.obj.toNat<s.ob.length:=by have:=ho.1;have:=ho.2;omega
    have hx:rC s E=(s.ob[E.obj.toNat]).o:=by unfold rC;rw[List.getElem?_eq_getElem hl]
    have hc:=hP.cs _ (List.getElem_mem hl)
    exact⟨ho,by rw[hx];exact hc.2.2.1,by rw[hx];exact hc.2.2.2.1⟩
  unfold fK
  cases hc:(E.link==0)with
  |true=>
   simp only[cond_true];unfold dX
   cases hb:decide ((A.sh:Int)≤(rD s E).shard+1)with
   |true=>exact⟨hP.σ (hm.put _ _ _) (by rw[aZ];omega),fun _=>{ who:=hE.who,j:=hE.j,js:=fun _=>hE.js hs,left:=hE.left,lp:=fun _=>hE.lp hp,sh:=⟨(by have:=hE.sh;show 0≤E.shard+1;omega),(by show E.shard+1≤4;omega)⟩,shs:=fun h=>(by rcases h with h|h|h<;>cases h),obj:=fun h=>(by rcases h with h|h<;>cases h),link:=hE.link,woken:=hwok,wl:=(by have:=hE.wl;show(E.woken++[_]).length≤N+1;simp;omega),pk:=Nat.le_succ_of_le hE.pk,n:=hE.n,w:=hE.w,x:=hE.x,rg:=fun h=>(by cases h),r:=hE.r },rfl,K0 _ _ rfl rfl (by show(E.woken++[_]).length≤_;simp),rfl⟩
   |false=>exact⟨hP.σ (hm.put _ _ _) (by rw[aZ];omega),fun _=>{ who:=hE.who,j:=hE.j,js:=fun _=>hE.js hs,left:=hE.left,lp:=fun _=>hE.lp hp,sh:=⟨(by have:=hE.sh;show 0≤E.shard+1;omega),(by show E.shard+1≤4;omega)⟩,shs:=fun _=>(by have h9:¬ (A.sh:Int)≤E.shard+1:=of_decide_eq_false hb;show E.shard+1<A.sh;omega),obj:=fun h=>(by rcases h with h|h<;>cases h),link:=hE.link,woken:=hwok,wl:=(by have:=hE.wl;show(E.woken++[_]).length≤N+1;simp;omega),pk:=Nat.le_succ_of_le hE.pk,n:=hE.n,w:=hE.w,x:=hE.x,rg:=fun h=>(by cases h),r:=hE.r },rfl,K0 _ _ rfl rfl (by show(E.woken++[_]).length≤_;simp),rfl⟩
  |false=>
   have h0:=hE.link;have h2:E.link≠0:=by simpa using hc
   exact⟨hP.σ (hm.put _ _ _) (by rw[aZ];omega),fun _=>{ who:=hE.who,j:=hE.j,js:=fun _=>hE.js hs,left:=hE.left,lp:=fun _=>hE.lp hp,sh:=hE.sh,shs:=fun _=>hshs,obj:=fun _=>(by show 0≤E.link - 1∧E.link - 1<s.ob.length;omega),link:=hE.link,woken:=hwok,wl:=(by have:=hE.wl;show(E.woken++[_]).length≤N+1;simp;omega),pk:=Nat.le_succ_of_le hE.pk,n:=hE.n,w:=hE.w,x:=hE.x,rg:=fun h=>(by cases h),r:=hE.r },rfl,K0 _ _ rfl rfl (by show(E.woken++[_]).length≤_;simp),rfl⟩
 |same=>
  rw[show aT A s E now=jC s E now by unfold aT;rw[hst]];have hs:E.st.serves=true:=by rw[hst];rfl
  have hp:E.st.part=true:=by rw[hst];rfl
  unfold jC
  cases hb:(s.σ.num df==E.calm)with
  |true=>exact⟨hP.σ (hm.put _ _ _) (by rw[aZ];omega),fun _=>{ who:=hE.who,j:=hE.j,js:=fun _=>hE.js hs,left:=hE.left,lp:=fun _=>hE.lp hp,sh:=hE.sh,shs:=fun h=>(by rcases h with h|h|h<;>cases h),obj:=fun h=>(by rcases h with h|h<;>cases h),link:=hE.link,woken:=hE.woken,wl:=Nat.le_succ_of_le hE.wl,pk:=Nat.le_succ_of_le hE.pk,n:=hE.n,w:=hE.w,x:=hE.x,rg:=fun h=>(by cases h),r:=hE.r },rfl,K0 _ _ rfl rfl (Nat.le_succ _),rfl⟩
  |false=>exact⟨hP.σ (hm.put _ _ _) (by rw[aZ];omega),fun _=>{ who:=hE.who,j:=hE.j,js:=fun _=>hE.js hs,left:=hE.left,lp:=fun _=>hE.lp hp,sh:=hE.sh,shs:=fun h=>(by rcases h with h|h|h<;>cases h),obj:=fun h=>(by rcases h with h|h<;>cases h),link:=hE.link,woken:=hE.woken,wl:=Nat.le_succ_of_le hE.wl,pk:=Nat.le_succ_of_le hE.pk,n:=hE.n,w:=hE.w,x:=hE.x,rg:=fun h=>(by cases h),r:=hE.r },rfl,K0 _ _ rfl rfl (Nat.le_succ _),rfl⟩
 |pick=>
  rw[show aT A s E now=dpickO s E A.wd by unfold aT;rw[hst]];have hs:E.st.serves=true:=by rw[hst];rfl
  have hp:E.st.part=true:=by rw[hst];rfl
  have hwok:QA E.woken:=fun y hy=>⟨by have h:=(hE.woken y hy).1;exact je (by have:=h.1;omega) (by have:=h.2;omega),(hE.woken y hy).2⟩
  have hkk:rY (jl s E A.wd) (m+E.woken.length):=hK.k.wakes (wd:=A.wd) E.woken hwok;have hkp:rY ((jl s E A.wd).pick A.wd).1 (m+E.woken.length):=hkk.pick A.wd;have how:=yC (s:=s) (wd:=A.wd) E.woken s.k (fun y hy=>(hE.woken y hy).1) hK.ow;have hpo:∀ i,((jl s E A.wd).pick A.wd).1.ow i=(jl s E A.wd).ow i:=fun i=>by unfold Co.pick;split<;>rfl
  have hnil:s.ob=[]→((((jl s E A.wd).pick A.wd).1).q.pop A.wd).2=none:=fun e0=>by
   have hw:E.woken=[]:=by
    cases hw:E.woken with
    |nil=>rfl
    |cons y L=>
     have:=(hE.woken y (by rw[hw];simp)).1
     unfold sU at this;rw[e0]at this
     simp at this
     omega
   have hd:jl s E A.wd=s.k:=by unfold jl;rw[hw];rfl
   rw[hd];have hn:=hK.nil e0;unfold Co.pick;rw[hn]
   exact hn
  have KP:∀ s':PS,s'.k=((jl s E A.wd).pick A.wd).1→s'.ob=s.ob→oL A.wd s' (m+E.woken.length):=fun s' h1 h2=>⟨by rw[h1];exact hkp,fun i=>by unfold sU;rw[h1,h2,hpo];exact how i,fun e=>by rw[h1];exact hnil (h2▸e)⟩
  have hpn:=fun y hy=>hK.picks (y:=y) hE hy
  unfold dpickO
  cases hp2:((jl s E A.wd).pick A.wd).2 with
  |none=>exact⟨hP.next (hm.put _ _ _) (by show(s.σ.put _ _ _).log.length≤_;rw[aZ];omega) (by simp[PS.note,pI,dN]) (by simp[PS.note,pI,dN]) hP.cs hP.nx,fun _=>{ who:=hE.who,j:=hE.j,js:=fun _=>hE.js hs,left:=hE.left,lp:=fun _=>hE.lp hp,sh:=hE.sh,shs:=fun h=>(by rcases h with h|h|h<;>cases h),obj:=fun h=>(by rcases h with h|h<;>cases h),link:=hE.link,woken:=fun y hy=>(by cases hy),wl:=Nat.zero_le _,pk:=Nat.le_succ_of_le hE.pk,n:=hE.n,w:=hE.w,x:=hE.x,rg:=fun h=>(by cases h),r:=hE.r },rfl,⟨m+E.woken.length,KP _ rfl rfl,by simp⟩,rfl⟩
  |some y=>
   have hy:=hpn y hp2;have h1:=hy.1;have h2:=hy.2;have hyn:dC (y.2:Nat):=by have:=JV hkk hp2;unfold dC;omega
   exact⟨hP.next (hm.put _ _ _) (by show(s.σ.put _ _ _).log.length≤_;rw[aZ];omega) (by simp[pI,dN]) (by simp[pI,dN]) hP.cs hP.nx,fun _=>{ who:=hE.who,j:=hE.j,js:=fun _=>hE.js hs,left:=hE.left,lp:=fun _=>hE.lp hp,sh:=hE.sh,shs:=fun h=>(by rcases h with h|h|h<;>cases h),obj:=fun h=>(by rcases h with h|h<;>cases h),link:=hE.link,woken:=fun y hy=>(by cases hy),wl:=Nat.zero_le _,pk:=Nat.le_succ_of_le hE.pk,n:=hyn,w:=hE.w,x:=hE.x,rg:=fun _=>⟨_,rfl⟩,r:=fun i h=>(by cases h;show y.1.toNat<s.ob.length;omega) },rfl,⟨m+E.woken.length,KP _ rfl rfl,by simp⟩,rfl⟩
 |shown=>
  rw[show aT A s E now=jO s E by unfold aT;rw[hst]];have hs:E.st.serves=true:=by rw[hst];rfl
  have hp:E.st.part=true:=by rw[hst];rfl
  have hr:E.st.rg=true:=by rw[hst];rfl
  unfold jO
  cases hb:uX s E with
  |true=>exact⟨hP.σ (hm.put _ _ _) (by rw[aZ];omega),fun _=>{ who:=hE.who,j:=hE.j,js:=fun _=>hE.js hs,left:=hE.left,lp:=fun _=>hE.lp hp,sh:=hE.sh,shs:=fun h=>(by rcases h with h|h|h<;>cases h),obj:=fun h=>(by rcases h with h|h<;>cases h),link:=hE.link,woken:=hE.woken,wl:=Nat.le_succ_of_le hE.wl,pk:=Nat.le_succ_of_le hE.pk,n:=hE.n,w:=hE.w,x:=hE.x,rg:=fun _=>hE.rg hr,r:=hE.r },rfl,K0 _ _ rfl rfl (Nat.le_succ _),rfl⟩
  |false=>exact⟨hP.σ (hm.put _ _ _) (by rw[aZ];omega),fun _=>{ who:=hE.who,j:=hE.j,js:=fun _=>hE.js hs,left:=hE.left,lp:=fun _=>hE.lp hp,sh:=hE.sh,shs:=fun h=>(by rcases h with h|h|h<;>cases h),obj:=fun h=>(by rcases h with h|h<;>cases h),link:=hE.link,woken:=hE.woken,wl:=Nat.le_succ_of_le hE.wl,pk:=Nat.le_succ_of_le hE.pk,n:=hE.n,w:=hE.w,x:=hE.x,rg:=fun _=>hE.rg hr,r:=hE.r },rfl,K0 _ _ rfl rfl (Nat.le_succ _),rfl⟩
 |get=>
  rw[show aT A s E now=nJ s E by unfold aT;rw[hst]];have hs:E.st.serves=true:=by rw[hst];rfl
  have hp:E.st.part=true:=by rw[hst];rfl
  have hr:E.st.rg=true:=by rw[hst];rfl
  obtain⟨i,hi⟩:=hE.rg hr;have hlt:=hE.r i hi;have hri:E.ri=i:=by unfold eQ.ri;rw[hi];rfl
  have hc:=hP.cs _ (List.getElem_mem hlt);have hx:I64 (yX s E).len:=by
   have hix:=yJ (n:=E.n) hc.1;unfold yX;rw[hri,List.getElem?_eq_getElem hlt];simp only[List.getD,List.getElem?_eq_getElem hix,Option.getD_some]
   exact hc.2.2.2.2 _ (List.getElem_mem hix)
  exact⟨hP.σn (hm.put _ _ _) (by rw[aZ];omega) _ _ _,fun _=>{ who:=hE.who,j:=hE.j,js:=fun _=>hE.js hs,left:=hE.left,lp:=fun _=>hE.lp hp,sh:=hE.sh,shs:=fun h=>(by rcases h with h|h|h<;>cases h),obj:=fun h=>(by rcases h with h|h<;>cases h),link:=hE.link,woken:=hE.woken,wl:=Nat.le_succ_of_le hE.wl,pk:=(by have:=hE.pk;show(E.told.pk++[_]).length≤N+1;simp;omega),n:=hE.n,w:=hE.w,x:=hx,rg:=fun _=>hE.rg hr,r:=hE.r },rfl,K0 _ _ rfl rfl (Nat.le_succ _),rfl⟩
 |free'=>
  rw[show aT A s E now=qW s E by unfold aT;rw[hst]];have hs:E.st.serves=true:=by rw[hst];rfl
  have hp:E.st.part=true:=by rw[hst];rfl
  have hr:E.st.rg=true:=by rw[hst];rfl
  exact⟨hP.σ ((hm.put _ _ _).set' (dC.wrap _) (by simp) (by simp)) (by rw[gy,aZ];omega),fun _=>{ who:=hE.who,j:=hE.j,js:=fun _=>hE.js hs,left:=hE.left,lp:=fun _=>hE.lp hp,sh:=hE.sh,shs:=fun h=>(by rcases h with h|h|h<;>cases h),obj:=fun h=>(by rcases h with h|h<;>cases h),link:=hE.link,woken:=hE.woken,wl:=Nat.le_succ_of_le hE.wl,pk:=Nat.le_succ_of_le hE.pk,n:=hE.n,w:=hE.w,x:=hE.x,rg:=fun _=>hE.rg hr,r:=hE.r },rfl,K0 _ _ rfl rfl (Nat.le_succ _),rfl⟩
 |word=>
  rw[show aT A s E now=lN s E by unfold aT;rw[hst]];have hs:E.st.serves=true:=by rw[hst];rfl
  have hp:E.st.part=true:=by rw[hst];rfl
  have hr:E.st.rg=true:=by rw[hst];rfl
  unfold lN
  cases hb:jY s E with
  |true=>exact⟨hP.σ (hm.put _ _ _) (by rw[aZ];omega),fun _=>{ who:=hE.who,j:=hE.j,js:=fun _=>hE.js hs,left:=hE.left,lp:=fun _=>hE.lp hp,sh:=hE.sh,shs:=fun h=>(by rcases h with h|h|h<;>cases h),obj:=fun h=>(by rcases h with h|h<;>cases h),link:=hE.link,woken:=hE.woken,wl:=Nat.le_succ_of_le hE.wl,pk:=Nat.le_succ_of_le hE.pk,n:=hE.n,w:=hP.u _,x:=hE.x,rg:=fun _=>hE.rg hr,r:=hE.r },rfl,K0 _ _ rfl rfl (Nat.le_succ _),rfl⟩
  |false=>exact⟨hP.σ (hm.put _ _ _) (by rw[aZ];omega),fun _=>{ who:=hE.who,j:=hE.j,js:=fun _=>hE.js hs,left:=hE.left,lp:=fun _=>hE.lp hp,sh:=hE.sh,shs:=fun h=>(by rcases h with h|h|h<;>cases h),obj:=fun h=>(by rcases h with h|h<;>cases h),link:=hE.link,woken:=hE.woken,wl:=Nat.le_succ_of_le hE.wl,pk:=Nat.le_succ_of_le hE.pk,n:=hE.n,w:=hP.u _,x:=hE.x,rg:=fun _=>hE.rg hr,r:=hE.r },rfl,K0 _ _ rfl rfl (Nat.le_succ _),rfl⟩
 |rest=>
  rw[show aT A s E now=qF s E by unfold aT;rw[hst]];have hs:E.st.serves=true:=by rw[hst];rfl
  have hp:E.st.part=true:=by rw[hst];rfl
  have hr:E.st.rg=true:=by rw[hst];rfl
  exact⟨hP.σ (hm.turn _ _ _ _) (by have:=nM (σ:=s.σ) E.who (E.ri:Nat) 1 E.w;omega),fun _=>{ who:=hE.who,j:=hE.j,js:=fun _=>hE.js hs,left:=hE.left,lp:=fun _=>hE.lp hp,sh:=hE.sh,shs:=fun h=>(by rcases h with h|h|h<;>cases h),obj:=fun h=>(by rcases h with h|h<;>cases h),link:=hE.link,woken:=hE.woken,wl:=Nat.le_succ_of_le hE.wl,pk:=Nat.le_succ_of_le hE.pk,n:=hE.n,w:=hE.w,x:=hE.x,rg:=fun _=>hE.rg hr,r:=hE.r },rfl,K0 _ _ rfl rfl (Nat.le_succ _),rfl⟩
 |keep=>
  rw[show aT A s E now=lU s E A.wd by unfold aT;rw[hst]];have hs:E.st.serves=true:=by rw[hst];rfl
  have hp:E.st.part=true:=by rw[hst];rfl
  have hr:E.st.rg=true:=by rw[hst];rfl
  have hne:=rgo hr;have hkd:=hK.k.done A.wd E.x.len E.more
  exact⟨hP.next (hm.put _ _ _) (by show(s.σ.put _ _ _).log.length≤_;rw[aZ];omega) (by simp[lU,I8,dN]) (by simp[lU,I8,dN]) hP.cs hP.nx,fun _=>{ who:=hE.who,j:=hE.j,js:=fun _=>hE.js hs,left:=hE.left,lp:=fun _=>hE.lp hp,sh:=hE.sh,shs:=fun h=>(by rcases h with h|h|h<;>cases h),obj:=fun h=>(by rcases h with h|h<;>cases h),link:=hE.link,woken:=hE.woken,wl:=Nat.le_succ_of_le hE.wl,pk:=Nat.le_succ_of_le hE.pk,n:=hE.n,w:=hE.w,x:=hE.x,rg:=fun h=>(by cases h),r:=hE.r },rfl,⟨m+1,⟨hkd,fun i=>(by show sU s ((s.k.done A.wd E.x.len E.more).ow i)∨(s.k.done A.wd E.x.len E.more).ow i=0;rw[RI];exact hK.ow i),fun e=>absurd e hne⟩,(by show m+1+E.woken.length≤_;omega)⟩,rfl⟩
 |end'=>
  rw[show aT A s E now=nI s E by unfold aT;rw[hst]];have hs:E.st.serves=true:=by rw[hst];rfl
  have hp:E.st.part=true:=by rw[hst];rfl
  have hl1:=hE.lp hp;have hl2:=hE.left;unfold nI
  cases hb:(E.left - 1==0)||(E.told.e==10)with
  |true=>exact⟨hP.σ ((hm.put _ _ _).set' (dC.wrap _) (by simp) (by simp)) (by rw[gy,aZ];omega),fun _=>{ who:=hE.who,j:=hE.j,js:=fun _=>hE.js hs,left:=⟨(by show 0≤E.left - 1;omega),(by show E.left - 1≤16;omega)⟩,lp:=fun h=>(by cases h),sh:=hE.sh,shs:=fun h=>(by rcases h with h|h|h<;>cases h),obj:=fun h=>(by rcases h with h|h<;>cases h),link:=hE.link,woken:=hE.woken,wl:=Nat.le_succ_of_le hE.wl,pk:=Nat.le_succ_of_le hE.pk,n:=hE.n,w:=hE.w,x:=hE.x,rg:=fun h=>(by cases h),r:=hE.r },rfl,K0 _ _ rfl rfl (Nat.le_succ _),rfl⟩
  |false=>
   have h0:E.left - 1≠0:=by simp only[Bool.or_eq_false_iff]at hb;simpa using hb.1
   exact⟨hP.σ ((hm.put _ _ _).set' (dC.wrap _) (by simp) (by simp)) (by rw[gy,aZ];omega),fun _=>{ who:=hE.who,j:=hE.j,js:=fun _=>hE.js hs,left:=⟨(by show 0≤E.left - 1;omega),(by show E.left - 1≤16;omega)⟩,lp:=fun _=>(by show 1≤E.left - 1;omega),sh:=hE.sh,shs:=fun h=>(by rcases h with h|h|h<;>cases h),obj:=fun h=>(by rcases h with h|h<;>cases h),link:=hE.link,woken:=hE.woken,wl:=Nat.le_succ_of_le hE.wl,pk:=Nat.le_succ_of_le hE.pk,n:=hE.n,w:=hE.w,x:=hE.x,rg:=fun h=>(by cases h),r:=hE.r },rfl,K0 _ _ rfl rfl (Nat.le_succ _),rfl⟩
end
def fails (a:Int) (l:List Ev):Nat:=l.countP fun x=>decide (x.who=a∧x.kind=4∧x.loc.k=11)
def swaps (a:Int) (l:List Ev):Nat:=l.countP fun x=>decide (x.who≠a∧x.kind=3∧x.loc.k=11)
structure kG (σ:MS) (a:Int) (l:Lc) (v:Int):Prop where
 ex:∃ pre post,σ.log=pre++⟨a,1,l⟩::post∧(∀ x∈post,x.who=a→x.loc.k≠11)∧fails a σ.log≤swaps a pre∧((∀ x∈post,¬ (x.kind=3∧x.loc=l))→σ.num l=v)
def Passed (p:List Ev) (a:Int) (l:Lc):Prop:=∃ pre post,p=pre++⟨a,1,l⟩::post∧(∀ x∈post,x.who=a→x.loc.k≠11)∧∃ x∈post,x.kind=3∧x.loc=l
structure dJ (L:List Ev):Prop where
 pass:∀ p q a l,L=p++⟨a,4,l⟩::q→l.k=11→Passed p a l
 cnt:∀ a,fails a L≤swaps a L
inductive Eff (b:Int) (σ σ':MS):Prop
 |quiet (ext:List Ev) (h:σ'.log=σ.log++ext) (hw:∀ x∈ext,x.who=b∧x.loc.k≠11) (hn:∀ l,l.k=11→σ'.num l=σ.num l)
 |load (l:Lc) (h:σ'=σ.put b 1 l) (hl:l.k=11)
 |turn (o:Int) (how:Nat) (x:Int) (h:σ'=σ.turn b o how x)
theorem rH (a:Int) (l m:List Ev):fails a (l++m)=fails a l+fails a m:=by simp[fails]
theorem vP (a:Int) (l m:List Ev):swaps a (l++m)=swaps a l+swaps a m:=by simp[swaps]
theorem JQ {a:Int} {l:List Ev} (h:∀ x∈l,x.loc.k≠11):fails a l=0:=by
 unfold fails;rw[List.countP_eq_zero]
 intro x hx
 have:=h x hx
 simp[this]
theorem Eg {a:Int} {l:List Ev} (h:∀ x∈l,x.who≠a):fails a l=0:=by
 unfold fails;rw[List.countP_eq_zero]
 intro x hx
 have:=h x hx
 simp[this]
theorem kG.load {σ:MS} (hL:dJ σ.log) (a:Int) (l:Lc) (hl:l.k=11):kG (σ.put a 1 l) a l (σ.num l):=
 ⟨σ.log,[],rfl,(by simp),(by show fails a (σ.log++[_])≤_;rw[rH];have:=hL.cnt a;simp[fails]at this ⊢;exact this),fun _=>rfl⟩
theorem xX (σ:MS) (b o:Int) (how:Nat) (x:Int):σ.turn b o how x=σ∨σ.turn b o how x=(σ.put b 3 (bQ o)).set (bQ o) (tW how x)∨σ.turn b o how x=σ.put b 4 (bQ o):=by
 unfold MS.turn
 split
 ·unfold MS.swap
  split
  ·exact .inr (.inl rfl)
  ·exact .inr (.inr rfl)
 ·exact .inl rfl
theorem kG.other {σ σ':MS} {a b:Int} {l:Lc} {v:Int} (h:kG σ a l v) (hl:l.k=11) (hab:a≠b) (e:Eff b σ σ'):kG σ' a l v:=by
 obtain⟨pre,post,h1,h2,h3,h4⟩:=h.ex;have key:∀ ext:List Ev,σ'.log=σ.log++ext→(∀ x∈ext,x.who=b)→((∀ x∈ext,¬ (x.kind=3∧x.loc=l))→σ'.num l=σ.num l)→kG σ' a l v:=fun ext k1 k2 k3=>by
  refine⟨pre,post++ext,by rw[k1,h1];simp,fun x hx=>?_,?_,fun hx=>?_⟩
  ·rcases List.mem_append.1 hx with h|h
   ·exact h2 x h
   ·exact fun e=>absurd (e.symm.trans (k2 x h)) hab
  ·rw[k1,rH,Eg (l:=ext) (fun x hx e=>hab (e.symm.trans (k2 x hx)))]
   exact h3
  ·rw[k3 (fun x hx'=>hx x (by simp[hx'])),h4 (fun x hx'=>hx x (by simp[hx']))]
 cases e with
 |quiet ext k1 k2 k3=>exact key ext k1 (fun x hx=>(k2 x hx).1) (fun _=>k3 l hl)
 |load l' k1 k2=>subst k1;exact key [⟨b,1,l'⟩] rfl (by simp) (fun _=>rfl)
 |turn o how x k1=>
  rcases xX σ b o how x with h5|h5|h5<;>rw[h5]at k1
  ·rw[k1];exact h
  ·subst k1
   refine key [⟨b,3,bQ o⟩] rfl (by simp) (fun hx=>?_)
   show(if l=bQ o then _ else σ.num l)=σ.num l
   rw[if_neg (fun e=>hx ⟨b,3,bQ o⟩ (by simp) ⟨rfl,e.symm⟩)]
  ·subst k1;exact key [⟨b,4,bQ o⟩] rfl (by simp) (fun _=>rfl)
theorem kG.quiet {σ σ':MS} {a:Int} {l:Lc} {v:Int} (h:kG σ a l v) (hl:l.k=11) (ext:List Ev) (k1:σ'.log=σ.log++ext) (k2:∀ x∈ext,x.who=a∧x.loc.k≠11) (k3:∀ l,l.k=11→σ'.num l=σ.num l):kG σ' a l v:=by
 obtain⟨pre,post,h1,h2,h3,h4⟩:=h.ex;refine⟨pre,post++ext,by rw[k1,h1];simp,fun x hx=>?_,?_,fun hx=>?_⟩
 ·rcases List.mem_append.1 hx with h|h
  ·exact h2 x h
  ·exact fun _=>(k2 x h).2
 ·rw[k1,rH,JQ (l:=ext) (fun x hx=>(k2 x hx).2)]
  exact h3
 ·rw[k3 l hl,h4 (fun x hx'=>hx x (by simp[hx']))]
theorem GR {p q:List Ev} {x y:Ev} {L:List Ev} (h:L++[y]=p++x::q):(∃ q',q=q'++[y]∧L=p++x::q')∨(p=L∧x=y∧q=[]):=by
 rcases List.eq_nil_or_concat q with rfl|⟨q',z,rfl⟩
 ·have:=List.append_inj' h rfl
  simp at this
  exact .inr ⟨this.1.symm,this.2.symm,rfl⟩
 ·have h2:L++[y]=(p++x::q')++[z]:=by simpa using h
  have:=List.append_inj' h2 rfl
  simp only[List.cons.injEq,and_true]at this
  exact .inl ⟨q',by simp[this.2],this.1⟩
theorem dJ.snoc {L:List Ev} (h:dJ L) (y:Ev) (hy:y.kind=4→y.loc.k=11→Passed L y.who y.loc∧fails y.who L+1≤swaps y.who L):dJ (L++[y]):=by
 refine⟨fun p q a l e hl=>?_,fun a=>?_⟩
 ·rcases GR e with⟨q',_,e2⟩|⟨rfl,e2,_⟩
  ·exact h.pass p q' a l e2 hl
  ·subst e2
   exact(hy rfl hl).1
 ·rw[rH,vP]
  have h0:=h.cnt a
  by_cases h1:y.who=a∧y.kind=4∧y.loc.k=11
  ·have h2:=(hy h1.2.1 h1.2.2).2
   rw[h1.1]at h2;have h3:fails a [y]≤1:=by unfold fails;exact List.countP_le_length
   omega
  ·have h3:fails a [y]=0:=by unfold fails;rw[List.countP_eq_zero];intro x hx;simp at hx;subst hx;simpa using h1
   omega
theorem dJ.apps {L:List Ev} (h:dJ L):∀ (ext:List Ev),(∀ x∈ext,x.loc.k≠11)→dJ (L++ext)
 | [],_=>by simpa using h
 |x::ext,hx=>by
  have h1:=h.snoc x (fun _ hl=>absurd hl (hx x (by simp)));have h2:=dJ.apps h1 ext (fun y hy=>hx y (by simp[hy]))
  simpa using h2
theorem dJ.turn {σ:MS} {b o x:Int} (h:dJ σ.log) (how:Nat) (hA:kG σ b (bQ o) x):dJ (σ.turn b o how x).log:=by
 unfold MS.turn
 split
 ·unfold MS.swap
  split
  ·exact h.snoc ⟨b,3,bQ o⟩ (fun e=>by simp at e)
  ·rename_i hne
   obtain⟨pre,post,h1,h2,h3,h4⟩:=hA.ex;have hex:∃ y∈post,y.kind=3∧y.loc=bQ o:=by
    by_cases hc:∃ y∈post,y.kind=3∧y.loc=bQ o
    ·exact hc
    ·exact absurd (h4 (fun y hy hk=>hc ⟨y,hy,hk⟩)) hne
   refine h.snoc ⟨b,4,bQ o⟩ (fun _ _=>⟨⟨pre,post,h1,h2,hex⟩,?_⟩);obtain⟨y,hy,hk,hl⟩:=hex;have hyw:y.who≠b:=fun e=>h2 y hy e (by rw[hl])
   have hpos:1≤swaps b post:=by
    unfold swaps
    exact List.countP_pos_iff.2 ⟨y,hy,by simp[hyw,hk,hl]⟩
   have hs:swaps b σ.log=swaps b pre+(swaps b [⟨b,1,bQ o⟩]+swaps b post):=by
    rw[h1,show pre++(⟨b,1,bQ o⟩:Ev)::post=pre++([⟨b,1,bQ o⟩]++post) by simp,vP,vP]
   show fails b σ.log+1≤swaps b σ.log
   omega
 ·exact h
theorem dJ.load {σ:MS} {b:Int} (h:dJ σ.log) (o:Int):dJ (σ.put b 1 (bQ o)).log:=h.snoc ⟨b,1,bQ o⟩ (fun e=>by simp at e)
end Go.Proofs.YtjnbbmgbmiggbaaGreatDoor
