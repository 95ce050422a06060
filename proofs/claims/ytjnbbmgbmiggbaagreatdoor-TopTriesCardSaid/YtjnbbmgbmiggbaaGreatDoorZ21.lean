/- Lemmas for TopTries' card: what each step does with words; package world, first part. -/
import Derived.Test.YtjnbbmgbmiggbaaGreatDoorZ20
set_option linter.unusedSimpArgs false
set_option linter.unusedVariables false
set_option maxRecDepth 20000
set_option maxHeartbeats 4000000
namespace Go.Proofs.YtjnbbmgbmiggbaaGreatDoor
open Go Go.RowKit Go.Maps Go.Proofs.Tryz
def bU (b:Int) (σ σ':MS):Prop:=∃ ext,σ'.log=σ.log++ext∧(∀ x∈ext,x.who=b∧x.loc.k≠11)∧∀ l,l.k=11→σ'.num l=σ.num l
section
variable {σ σ':MS} {b:Int} {l:Lc}
theorem bU.eff (h:bU b σ σ'):Eff b σ σ':=by obtain⟨ext,h1,h2,h3⟩:=h;exact .quiet ext h1 h2 h3
theorem bU.law (h:bU b σ σ') (hL:dJ σ.log):dJ σ'.log:=by obtain⟨ext,h1,h2,_⟩:=h;rw[h1];exact hL.apps ext (fun x hx=>(h2 x hx).2)
theorem bU.arm (h:bU b σ σ') {o v:Int} (hA:kG σ b (bQ o) v):kG σ' b (bQ o) v:=by obtain⟨ext,h1,h2,h3⟩:=h;exact hA.quiet rfl ext h1 h2 h3
theorem bU.refl:bU b σ σ:=⟨[],by simp,by simp,fun _ _=>rfl⟩
theorem bU.put (kd:Int) (hl:l.k≠11):bU b σ (σ.put b kd l):=⟨[⟨b,kd,l⟩],rfl,fun x hx=>by simp at hx;subst hx;exact⟨rfl,hl⟩,fun _ _=>rfl⟩
theorem bU.set (kd v:Int) (hl:l.k≠11):bU b σ ((σ.put b kd l).set l v):=⟨[⟨b,kd,l⟩],rfl,fun x hx=>by simp at hx;subst hx;exact⟨rfl,hl⟩,fun l' h'=>by
 show(if l'=l then v else σ.num l')=σ.num l'
 rw[if_neg (fun e=>hl (by rw[←e];exact h'))]⟩
theorem bU.swap (was now:Int) (hl:l.k≠11):bU b σ (σ.swap b l was now):=by
 unfold MS.swap
 split
 ·exact bU.set 3 now hl
 ·exact bU.put 4 hl
theorem bU.uf (k i flow obj:Int):bU b σ (σ.uf b k i flow obj):=by
 unfold MS.uf
 split
 ·exact bU.set 2 _ (by simp)
 ·exact bU.refl
end
theorem q3 {b:Int} {σ σ':MS} {X:Prop} (q:bU b σ σ') (hL:dJ σ.log) (h:X):Eff b σ σ'∧dJ σ'.log∧X:=⟨q.eff,q.law hL,h⟩
theorem VE {b o v:Int} {σ σ':MS} {X:Prop} (q:bU b σ σ') (hL:dJ σ.log) (h:kG σ b (bQ o) v):Eff b σ σ'∧dJ σ'.log∧(X→kG σ' b (bQ o) v):=⟨q.eff,q.law hL,fun _=>q.arm h⟩
def Uz (σ:MS) (E:jQ):Prop:=E.st=.head∨E.st=.claim∨E.st=.begin∨E.st=.wake→kG σ E.who (bQ (E.ri:Nat)) E.w
def UK (σ:MS) (E:jo):Prop:=E.st=.shut→kG σ E.who (bQ (E.ri:Nat)) E.w
def UI (σ:MS) (E:eQ):Prop:=E.st=.rest→kG σ E.who (bQ (E.ri:Nat)) E.w
section
variable {A:PA} {s:PS}
theorem MI {E:jQ} (now:Int) (hL:dJ s.σ.log) (hA:Uz s.σ E):Eff E.who s.σ ((aW s E A.sl now)).s.σ∧dJ ((aW s E A.sl now)).s.σ.log∧Uz ((aW s E A.sl now)).s.σ ((aW s E A.sl now)).E:=by
 cases hst:E.st with
 |first=>
  rw[show(aW s E A.sl now)=gB s E A.sl now by unfold aW;rw[hst]];unfold gB
  cases hc4:(decide (E.c.a<1)||decide (65536<E.c.a))with
  |true=>
   exact q3 (bU.refl) hL (fun h=>(by first|(rcases h with h|h|h|h<;>cases h;done)|(have h:E.st=_∨E.st=_∨E.st=_∨E.st=_:=h;rw[hst]at h;rcases h with h|h|h|h<;>cases h)))
  |false=>
   cases hc6:(decide (E.c.flow<0)||decide (1048576<E.c.flow))with
   |true=>
    exact q3 (bU.refl) hL (fun h=>(by first|(rcases h with h|h|h|h<;>cases h;done)|(have h:E.st=_∨E.st=_∨E.st=_∨E.st=_:=h;rw[hst]at h;rcases h with h|h|h|h<;>cases h)))
   |false=>
    simp only[cond_false];unfold ed
    cases hc8:jJ s E with
    |true=>
     exact q3 (bU.put _ (by simp)) hL (fun h=>(by first|(rcases h with h|h|h|h<;>cases h;done)|(have h:E.st=_∨E.st=_∨E.st=_∨E.st=_:=h;rw[hst]at h;rcases h with h|h|h|h<;>cases h)))
    |false=>
     cases hc10:decide ((A.sl:Int)≤E.i+1)with
     |true=>
      exact q3 (bU.put _ (by simp)) hL (fun h=>(by first|(rcases h with h|h|h|h<;>cases h;done)|(have h:E.st=_∨E.st=_∨E.st=_∨E.st=_:=h;rw[hst]at h;rcases h with h|h|h|h<;>cases h)))
     |false=>
      exact q3 (bU.put _ (by simp)) hL (fun h=>(by first|(rcases h with h|h|h|h<;>cases h;done)|(have h:E.st=_∨E.st=_∨E.st=_∨E.st=_:=h;rw[hst]at h;rcases h with h|h|h|h<;>cases h)))
 |scan=>
  rw[show(aW s E A.sl now)=ed s E A.sl by unfold aW;rw[hst]];unfold ed
  cases hc4:jJ s E with
  |true=>
   exact q3 (bU.put _ (by simp)) hL (fun h=>(by first|(rcases h with h|h|h|h<;>cases h;done)|(have h:E.st=_∨E.st=_∨E.st=_∨E.st=_:=h;rw[hst]at h;rcases h with h|h|h|h<;>cases h)))
  |false=>
   cases hc6:decide ((A.sl:Int)≤E.i+1)with
   |true=>
    exact q3 (bU.put _ (by simp)) hL (fun h=>(by first|(rcases h with h|h|h|h<;>cases h;done)|(have h:E.st=_∨E.st=_∨E.st=_∨E.st=_:=h;rw[hst]at h;rcases h with h|h|h|h<;>cases h)))
   |false=>
    exact q3 (bU.put _ (by simp)) hL (fun h=>(by first|(rcases h with h|h|h|h<;>cases h;done)|(have h:E.st=_∨E.st=_∨E.st=_∨E.st=_:=h;rw[hst]at h;rcases h with h|h|h|h<;>cases h)))
 |lock=>
  rw[show(aW s E A.sl now)=⟨{ s with σ:=s.σ.swap E.who (ja E.shard) 0 1 },kY s E,0,false⟩ by unfold aW;rw[hst]];unfold kY
  split
  ·exact q3 (bU.swap _ _ (by simp)) hL (fun h=>(by first|(rcases h with h|h|h|h<;>cases h;done)|(have h:E.st=_∨E.st=_∨E.st=_∨E.st=_:=h;rw[hst]at h;rcases h with h|h|h|h<;>cases h)))
  ·exact q3 (bU.swap _ _ (by simp)) hL (fun h=>(by first|(rcases h with h|h|h|h<;>cases h;done)|(have h:E.st=_∨E.st=_∨E.st=_∨E.st=_:=h;rw[hst]at h;rcases h with h|h|h|h<;>cases h)))
 |search=>
  rw[show(aW s E A.sl now)=fZ s E A.sl now by unfold aW;rw[hst]];unfold fZ
  cases hc4:jJ s E with
  |true=>
   exact q3 (bU.put _ (by simp)) hL (fun h=>(by first|(rcases h with h|h|h|h<;>cases h;done)|(have h:E.st=_∨E.st=_∨E.st=_∨E.st=_:=h;rw[hst]at h;rcases h with h|h|h|h<;>cases h)))
  |false=>
   cases hc6:decide ((A.sl:Int)≤E.i+1)with
   |true=>
    exact q3 (bU.put _ (by simp)) hL (fun h=>(by first|(rcases h with h|h|h|h<;>cases h;done)|(have h:E.st=_∨E.st=_∨E.st=_∨E.st=_:=h;rw[hst]at h;rcases h with h|h|h|h<;>cases h)))
   |false=>
    exact q3 (bU.put _ (by simp)) hL (fun h=>(by first|(rcases h with h|h|h|h<;>cases h;done)|(have h:E.st=_∨E.st=_∨E.st=_∨E.st=_:=h;rw[hst]at h;rcases h with h|h|h|h<;>cases h)))
 |unlock=>
  rw[show(aW s E A.sl now)=iL s E by unfold aW;rw[hst]];unfold iL
  cases hc4:E.found with
  |true=>
   exact q3 (bU.set _ _ (by simp)) hL (fun h=>(by first|(rcases h with h|h|h|h<;>cases h;done)|(have h:E.st=_∨E.st=_∨E.st=_∨E.st=_:=h;rw[hst]at h;rcases h with h|h|h|h<;>cases h)))
  |false=>
   exact q3 (bU.set _ _ (by simp)) hL (fun h=>(by first|(rcases h with h|h|h|h<;>cases h;done)|(have h:E.st=_∨E.st=_∨E.st=_∨E.st=_:=h;rw[hst]at h;rcases h with h|h|h|h<;>cases h)))
 |look=>
  rw[show(aW s E A.sl now)=oG s E E.obj.toNat by unfold aW;rw[hst]];unfold oG
  exact q3 (bU.put _ (by simp)) hL (fun h=>(by first|(rcases h with h|h|h|h<;>cases h;done)|(have h:E.st=_∨E.st=_∨E.st=_∨E.st=_:=h;rw[hst]at h;rcases h with h|h|h|h<;>cases h)))
 |word=>
  rw[show(aW s E A.sl now)=fJ s E .head by unfold aW;rw[hst]];unfold fJ
  cases hc4:(wst (s.wd E)==2)with
  |true=>
   exact⟨.load (bQ (E.ri:Nat)) rfl rfl,hL.load _,fun h=>(by first|(rcases h with h|h|h|h<;>cases h;done)|(have h:E.st=_∨E.st=_∨E.st=_∨E.st=_:=h;rw[hst]at h;rcases h with h|h|h|h<;>cases h))⟩
  |false=>
   exact⟨.load (bQ (E.ri:Nat)) rfl rfl,hL.load _,fun _=>kG.load hL _ _ rfl⟩
 |head=>
  rw[show(aW s E A.sl now)=jZ s E by unfold aW;rw[hst]];unfold jZ
  cases hc4:mM s E with
  |true=>
   exact q3 (bU.put _ (by simp)) hL (fun h=>(by first|(rcases h with h|h|h|h<;>cases h;done)|(have h:E.st=_∨E.st=_∨E.st=_∨E.st=_:=h;rw[hst]at h;rcases h with h|h|h|h<;>cases h)))
  |false=>
   cases hc6:(wst E.w==1)with
   |true=>
    exact VE (bU.put _ (by simp)) hL (hA (.inl hst))
   |false=>
    exact VE (bU.put _ (by simp)) hL (hA (.inl hst))
 |claim=>
  rw[show(aW s E A.sl now)=dO s E now .put .word by unfold aW;rw[hst]];unfold dO
  cases hc4:s.σ.turned (E.ri:Nat) 0 E.w with
  |true=>
   exact⟨.turn _ _ _ rfl,hL.turn _ (hA (.inr (.inl hst))),fun h=>(by first|(rcases h with h|h|h|h<;>cases h;done)|(have h:E.st=_∨E.st=_∨E.st=_∨E.st=_:=h;rw[hst]at h;rcases h with h|h|h|h<;>cases h))⟩
  |false=>
   exact⟨.turn _ _ _ rfl,hL.turn _ (hA (.inr (.inl hst))),fun h=>(by first|(rcases h with h|h|h|h<;>cases h;done)|(have h:E.st=_∨E.st=_∨E.st=_∨E.st=_:=h;rw[hst]at h;rcases h with h|h|h|h<;>cases h))⟩
 |put=>
  rw[show(aW s E A.sl now)=⟨fQ s E (s.uC E.ri).cs.length (s.uC E.ri),{ E with st:=.show' },0,false⟩ by unfold aW;rw[hst]]
  exact q3 (bU.put _ (by simp)) hL (fun h=>(by first|(rcases h with h|h|h|h<;>cases h;done)|(have h:E.st=_∨E.st=_∨E.st=_∨E.st=_:=h;rw[hst]at h;rcases h with h|h|h|h<;>cases h)))
 |show'=>
  rw[show(aW s E A.sl now)=⟨jq s E (s.uC E.ri).cs.length,E,0,true⟩ by unfold aW;rw[hst]]
  exact q3 (bU.set _ _ (by simp)) hL (fun h=>(by first|(rcases h with h|h|h|h<;>cases h;done)|(have h:E.st=_∨E.st=_∨E.st=_∨E.st=_:=h;rw[hst]at h;rcases h with h|h|h|h<;>cases h)))
 |begin=>
  rw[show(aW s E A.sl now)=⟨{ s with σ:=(s.σ.put E.who 3 df).set df (IntKind.u64.wrap (s.σ.num df+4294967296)) },{ E with st:=.wake },0,false⟩ by unfold aW;rw[hst]]
  exact VE (bU.set _ _ (by simp)) hL (hA (.inr (.inr (.inl hst))))
 |wake=>
  rw[show(aW s E A.sl now)=dO s E now .down .back by unfold aW;rw[hst]];unfold dO
  cases hc4:s.σ.turned (E.ri:Nat) 0 E.w with
  |true=>
   exact⟨.turn _ _ _ rfl,hL.turn _ (hA (.inr (.inr (.inr hst)))),fun h=>(by first|(rcases h with h|h|h|h<;>cases h;done)|(have h:E.st=_∨E.st=_∨E.st=_∨E.st=_:=h;rw[hst]at h;rcases h with h|h|h|h<;>cases h))⟩
  |false=>
   exact⟨.turn _ _ _ rfl,hL.turn _ (hA (.inr (.inr (.inr hst)))),fun h=>(by first|(rcases h with h|h|h|h<;>cases h;done)|(have h:E.st=_∨E.st=_∨E.st=_∨E.st=_:=h;rw[hst]at h;rcases h with h|h|h|h<;>cases h))⟩
 |down=>
  rw[show(aW s E A.sl now)=⟨fQ s E (s.uC E.ri).cs.length (s.uC E.ri),{ E with st:=.shown },0,false⟩ by unfold aW;rw[hst]]
  exact q3 (bU.put _ (by simp)) hL (fun h=>(by first|(rcases h with h|h|h|h<;>cases h;done)|(have h:E.st=_∨E.st=_∨E.st=_∨E.st=_:=h;rw[hst]at h;rcases h with h|h|h|h<;>cases h)))
 |seq=>
  rw[show(aW s E A.sl now)=nX s E by unfold aW;rw[hst]];unfold nX
  cases hc4:((s.σ.num gm).tmod 2==1)with
  |true=>
   exact q3 (bU.put _ (by simp)) hL (fun h=>(by first|(rcases h with h|h|h|h<;>cases h;done)|(have h:E.st=_∨E.st=_∨E.st=_∨E.st=_:=h;rw[hst]at h;rcases h with h|h|h|h<;>cases h)))
  |false=>
   exact q3 (bU.put _ (by simp)) hL (fun h=>(by first|(rcases h with h|h|h|h<;>cases h;done)|(have h:E.st=_∨E.st=_∨E.st=_∨E.st=_:=h;rw[hst]at h;rcases h with h|h|h|h<;>cases h)))
 |wordAgain=>
  rw[show(aW s E A.sl now)=fJ s E .headAgain by unfold aW;rw[hst]];unfold fJ
  cases hc4:(wst (s.wd E)==2)with
  |true=>
   exact⟨.load (bQ (E.ri:Nat)) rfl rfl,hL.load _,fun h=>(by first|(rcases h with h|h|h|h<;>cases h;done)|(have h:E.st=_∨E.st=_∨E.st=_∨E.st=_:=h;rw[hst]at h;rcases h with h|h|h|h<;>cases h))⟩
  |false=>
   exact⟨.load (bQ (E.ri:Nat)) rfl rfl,hL.load _,fun h=>(by first|(rcases h with h|h|h|h<;>cases h;done)|(have h:E.st=_∨E.st=_∨E.st=_∨E.st=_:=h;rw[hst]at h;rcases h with h|h|h|h<;>cases h))⟩
 |headAgain=>
  rw[show(aW s E A.sl now)=dZ s E now by unfold aW;rw[hst]];unfold dZ
  cases hc4:mM s E with
  |true=>
   exact q3 (bU.put _ (by simp)) hL (fun h=>(by first|(rcases h with h|h|h|h<;>cases h;done)|(have h:E.st=_∨E.st=_∨E.st=_∨E.st=_:=h;rw[hst]at h;rcases h with h|h|h|h<;>cases h)))
  |false=>
   exact q3 (bU.put _ (by simp)) hL (fun h=>(by first|(rcases h with h|h|h|h<;>cases h;done)|(have h:E.st=_∨E.st=_∨E.st=_∨E.st=_:=h;rw[hst]at h;rcases h with h|h|h|h<;>cases h)))
 |seqAgain=>
  rw[show(aW s E A.sl now)=fF s E by unfold aW;rw[hst]];unfold fF
  cases hc4:(s.σ.num gm==E.q)with
  |true=>
   exact q3 (bU.put _ (by simp)) hL (fun h=>(by first|(rcases h with h|h|h|h<;>cases h;done)|(have h:E.st=_∨E.st=_∨E.st=_∨E.st=_:=h;rw[hst]at h;rcases h with h|h|h|h<;>cases h)))
  |false=>
   exact q3 (bU.put _ (by simp)) hL (fun h=>(by first|(rcases h with h|h|h|h<;>cases h;done)|(have h:E.st=_∨E.st=_∨E.st=_∨E.st=_:=h;rw[hst]at h;rcases h with h|h|h|h<;>cases h)))
 |back=>
  rw[show(aW s E A.sl now)=⟨{ s with σ:=(s.σ.put E.who 3 df).set df (IntKind.u64.wrap (s.σ.num df+1)) },{ E with st:=.word },0,false⟩ by unfold aW;rw[hst]]
  exact q3 (bU.set _ _ (by simp)) hL (fun h=>(by first|(rcases h with h|h|h|h<;>cases h;done)|(have h:E.st=_∨E.st=_∨E.st=_∨E.st=_:=h;rw[hst]at h;rcases h with h|h|h|h<;>cases h)))
 |shown=>
  rw[show(aW s E A.sl now)=⟨jq s E (s.uC E.ri).cs.length,{ E with st:=.topmost },0,false⟩ by unfold aW;rw[hst]]
  exact q3 (bU.set _ _ (by simp)) hL (fun h=>(by first|(rcases h with h|h|h|h<;>cases h;done)|(have h:E.st=_∨E.st=_∨E.st=_∨E.st=_:=h;rw[hst]at h;rcases h with h|h|h|h<;>cases h)))
 |topmost=>
  rw[show(aW s E A.sl now)=⟨{ s with σ:=s.σ.put E.who 1 (fB E.shard) },{ E with top:=s.σ.num (fB E.shard),st:=.link },0,false⟩ by unfold aW;rw[hst]]
  exact q3 (bU.put _ (by simp)) hL (fun h=>(by first|(rcases h with h|h|h|h<;>cases h;done)|(have h:E.st=_∨E.st=_∨E.st=_∨E.st=_:=h;rw[hst]at h;rcases h with h|h|h|h<;>cases h)))
 |link=>
  rw[show(aW s E A.sl now)=⟨{ s with σ:=s.σ.put E.who 6 (tN E.obj),nx:=nG s.nx E.obj E.top },{ E with st:=.push },0,false⟩ by unfold aW;rw[hst]]
  exact q3 (bU.put _ (by simp)) hL (fun h=>(by first|(rcases h with h|h|h|h<;>cases h;done)|(have h:E.st=_∨E.st=_∨E.st=_∨E.st=_:=h;rw[hst]at h;rcases h with h|h|h|h<;>cases h)))
 |push=>
  rw[show(aW s E A.sl now)=kW s E by unfold aW;rw[hst]];unfold kW
  cases hc4:decide (s.σ.num (fB E.shard)=E.top)with
  |true=>
   exact q3 (bU.swap _ _ (by simp)) hL (fun h=>(by first|(rcases h with h|h|h|h<;>cases h;done)|(have h:E.st=_∨E.st=_∨E.st=_∨E.st=_:=h;rw[hst]at h;rcases h with h|h|h|h<;>cases h)))
  |false=>
   exact q3 (bU.swap _ _ (by simp)) hL (fun h=>(by first|(rcases h with h|h|h|h<;>cases h;done)|(have h:E.st=_∨E.st=_∨E.st=_∨E.st=_:=h;rw[hst]at h;rcases h with h|h|h|h<;>cases h)))
 |end'=>
  rw[show(aW s E A.sl now)=⟨{ s with σ:=(s.σ.put E.who 3 df).set df (IntKind.u64.wrap (s.σ.num df+1)) },E,0,true⟩ by unfold aW;rw[hst]]
  exact q3 (bU.set _ _ (by simp)) hL (fun h=>(by first|(rcases h with h|h|h|h<;>cases h;done)|(have h:E.st=_∨E.st=_∨E.st=_∨E.st=_:=h;rw[hst]at h;rcases h with h|h|h|h<;>cases h)))
theorem Oh {E:jo} (now:Int) (hL:dJ s.σ.log) (hA:UK s.σ E):Eff E.who s.σ ((bC A s E now)).s.σ∧dJ ((bC A s E now)).s.σ.log∧UK ((bC A s E now)).s.σ ((bC A s E now)).E:=by
 cases hst:E.st with
 |come=>
  rw[show(bC A s E now)=gK s E now by unfold bC;rw[hst]];unfold gK
  cases hc4:(decide (E.c.flow<0)||decide (1048576<E.c.flow))with
  |true=>
   exact q3 (bU.refl) hL (fun h=>(by first|(cases h;done)|(have h:E.st=_:=h;rw[hst]at h;cases h)))
  |false=>
   cases hc6:(decide (E.c.a<1)||decide (65536<E.c.a))with
   |true=>
    exact q3 (bU.refl) hL (fun h=>(by first|(cases h;done)|(have h:E.st=_:=h;rw[hst]at h;cases h)))
   |false=>
    cases hc8:(decide (E.c.b<1)||decide (8<E.c.b))with
    |true=>
     exact q3 (bU.refl) hL (fun h=>(by first|(cases h;done)|(have h:E.st=_:=h;rw[hst]at h;cases h)))
    |false=>
     unfold dI
     cases hc10:decide (s.σ.num (ja E.shard)=0)with
     |true=>
      exact q3 (bU.swap _ _ (by simp)) hL (fun h=>(by first|(cases h;done)|(have h:E.st=_:=h;rw[hst]at h;cases h)))
     |false=>
      exact q3 (bU.swap _ _ (by simp)) hL (fun h=>(by first|(cases h;done)|(have h:E.st=_:=h;rw[hst]at h;cases h)))
 |enter=>
  rw[show(bC A s E now)=dI s E .search .enter by unfold bC;rw[hst]];unfold dI
  cases hc4:decide (s.σ.num (ja E.shard)=0)with
  |true=>
   exact q3 (bU.swap _ _ (by simp)) hL (fun h=>(by first|(cases h;done)|(have h:E.st=_:=h;rw[hst]at h;cases h)))
  |false=>
   exact q3 (bU.swap _ _ (by simp)) hL (fun h=>(by first|(cases h;done)|(have h:E.st=_:=h;rw[hst]at h;cases h)))
 |search=>
  rw[show(bC A s E now)=fD s E A.sl now by unfold bC;rw[hst]];unfold fD
  cases hc4:kC s E with
  |true=>
   exact q3 (bU.put _ (by simp)) hL (fun h=>(by first|(cases h;done)|(have h:E.st=_:=h;rw[hst]at h;cases h)))
  |false=>
   cases hc6:oM E A.sl with
   |true=>
    cases hc8:decide ((ig s E).free<0)with
    |true=>
     exact q3 (bU.put _ (by simp)) hL (fun h=>(by first|(cases h;done)|(have h:E.st=_:=h;rw[hst]at h;cases h)))
    |false=>
     exact q3 (bU.put _ (by simp)) hL (fun h=>(by first|(cases h;done)|(have h:E.st=_:=h;rw[hst]at h;cases h)))
   |false=>
    exact q3 (bU.put _ (by simp)) hL (fun h=>(by first|(cases h;done)|(have h:E.st=_:=h;rw[hst]at h;cases h)))
 |make=>
  rw[show(bC A s E now)=kK s A E by unfold bC;rw[hst]];unfold kK
  exact q3 (bU.put _ (by simp)) hL (fun h=>(by first|(cases h;done)|(have h:E.st=_:=h;rw[hst]at h;cases h)))
 |put=>
  rw[show(bC A s E now)=uG s E now by unfold bC;rw[hst]];unfold uG
  exact q3 (bU.uf _ _ _ _) hL (fun h=>(by first|(cases h;done)|(have h:E.st=_:=h;rw[hst]at h;cases h)))
 |out=>
  rw[show(bC A s E now)=uH s E by unfold bC;rw[hst]];unfold uH
  exact q3 (bU.set _ _ (by simp)) hL (fun h=>(by first|(cases h;done)|(have h:E.st=_:=h;rw[hst]at h;cases h)))
 |leave=>
  rw[show(bC A s E now)=iP s E now by unfold bC;rw[hst]];unfold iP
  cases hc4:(decide (E.c.flow<0)||decide (1048576<E.c.flow))with
  |true=>
   exact q3 (bU.refl) hL (fun h=>(by first|(cases h;done)|(have h:E.st=_:=h;rw[hst]at h;cases h)))
  |false=>
   unfold dI
   cases hc6:decide (s.σ.num (ja E.shard)=0)with
   |true=>
    exact q3 (bU.swap _ _ (by simp)) hL (fun h=>(by first|(cases h;done)|(have h:E.st=_:=h;rw[hst]at h;cases h)))
   |false=>
    exact q3 (bU.swap _ _ (by simp)) hL (fun h=>(by first|(cases h;done)|(have h:E.st=_:=h;rw[hst]at h;cases h)))
 |lock=>
  rw[show(bC A s E now)=dI s E .find .lock by unfold bC;rw[hst]];unfold dI
  cases hc4:decide (s.σ.num (ja E.shard)=0)with
  |true=>
   exact q3 (bU.swap _ _ (by simp)) hL (fun h=>(by first|(cases h;done)|(have h:E.st=_:=h;rw[hst]at h;cases h)))
  |false=>
   exact q3 (bU.swap _ _ (by simp)) hL (fun h=>(by first|(cases h;done)|(have h:E.st=_:=h;rw[hst]at h;cases h)))
 |find=>
  rw[show(bC A s E now)=jD s E A.sl now by unfold bC;rw[hst]];unfold jD
  cases hc4:kC s E with
  |true=>
   exact q3 (bU.put _ (by simp)) hL (fun h=>(by first|(cases h;done)|(have h:E.st=_:=h;rw[hst]at h;cases h)))
  |false=>
   cases hc6:oM E A.sl with
   |true=>
    exact q3 (bU.put _ (by simp)) hL (fun h=>(by first|(cases h;done)|(have h:E.st=_:=h;rw[hst]at h;cases h)))
   |false=>
    exact q3 (bU.put _ (by simp)) hL (fun h=>(by first|(cases h;done)|(have h:E.st=_:=h;rw[hst]at h;cases h)))
 |word=>
  rw[show(bC A s E now)=kV s E by unfold bC;rw[hst]];unfold kV
  cases hc4:(wst (qw s E)==0)with
  |true=>
   exact⟨.load (bQ (E.ri:Nat)) rfl rfl,hL.load _,fun _=>kG.load hL _ _ rfl⟩
  |false=>
   exact⟨.load (bQ (E.ri:Nat)) rfl rfl,hL.load _,fun h=>(by first|(cases h;done)|(have h:E.st=_:=h;rw[hst]at h;cases h))⟩
 |seq=>
  rw[show(bC A s E now)=og s E by unfold bC;rw[hst]];unfold og
  cases hc4:((s.σ.num gm).tmod 2==1)with
  |true=>
   exact q3 (bU.put _ (by simp)) hL (fun h=>(by first|(cases h;done)|(have h:E.st=_:=h;rw[hst]at h;cases h)))
  |false=>
   exact q3 (bU.put _ (by simp)) hL (fun h=>(by first|(cases h;done)|(have h:E.st=_:=h;rw[hst]at h;cases h)))
 |wordAgain=>
  rw[show(bC A s E now)=dU s E now by unfold bC;rw[hst]];unfold dU
  cases hc4:(wst (qw s E)==0)with
  |true=>
   exact⟨.load (bQ (E.ri:Nat)) rfl rfl,hL.load _,fun _=>kG.load hL _ _ rfl⟩
  |false=>
   exact⟨.load (bQ (E.ri:Nat)) rfl rfl,hL.load _,fun h=>(by first|(cases h;done)|(have h:E.st=_:=h;rw[hst]at h;cases h))⟩
 |seqAgain=>
  rw[show(bC A s E now)=eG s E by unfold bC;rw[hst]];unfold eG
  cases hc4:(s.σ.num gm==E.q)with
  |true=>
   exact q3 (bU.put _ (by simp)) hL (fun h=>(by first|(cases h;done)|(have h:E.st=_:=h;rw[hst]at h;cases h)))
  |false=>
   exact q3 (bU.put _ (by simp)) hL (fun h=>(by first|(cases h;done)|(have h:E.st=_:=h;rw[hst]at h;cases h)))
 |shut=>
  rw[show(bC A s E now)=kM s E now by unfold bC;rw[hst]];unfold kM
  cases hc4:s.σ.turned (E.ri:Nat) 2 E.w with
  |true=>
   exact⟨.turn _ _ _ rfl,hL.turn _ (hA hst),fun h=>(by first|(cases h;done)|(have h:E.st=_:=h;rw[hst]at h;cases h))⟩
  |false=>
   exact⟨.turn _ _ _ rfl,hL.turn _ (hA hst),fun h=>(by first|(cases h;done)|(have h:E.st=_:=h;rw[hst]at h;cases h))⟩
 |clear=>
  rw[show(bC A s E now)=mW s E by unfold bC;rw[hst]];unfold mW
  exact q3 (bU.set _ _ (by simp)) hL (fun h=>(by first|(cases h;done)|(have h:E.st=_:=h;rw[hst]at h;cases h)))
theorem NU {E:eQ} (now:Int) (hL:dJ s.σ.log) (hA:UI s.σ E):Eff E.who s.σ ((aT A s E now)).s.σ∧dJ ((aT A s E now)).s.σ.log∧UI ((aT A s E now)).s.σ ((aT A s E now)).E:=by
 cases hst:E.st with
 |write=>
  rw[show(aT A s E now)=lY s E by unfold aT;rw[hst]];unfold lY
  exact q3 (bU.put _ (by simp)) hL (fun h=>(by first|(cases h;done)|(have h:E.st=_:=h;rw[hst]at h;cases h)))
 |send=>
  rw[show(aT A s E now)=qE s E by unfold aT;rw[hst]];unfold qE
  exact q3 (bU.set _ _ (by simp)) hL (fun h=>(by first|(cases h;done)|(have h:E.st=_:=h;rw[hst]at h;cases h)))
 |try'=>
  rw[show(aT A s E now)=lZ s E by unfold aT;rw[hst]];unfold lZ
  cases hc4:decide (s.σ.num iG=0)with
  |true=>
   exact q3 (bU.swap _ _ (by simp)) hL (fun h=>(by first|(cases h;done)|(have h:E.st=_:=h;rw[hst]at h;cases h)))
  |false=>
   exact q3 (bU.swap _ _ (by simp)) hL (fun h=>(by first|(cases h;done)|(have h:E.st=_:=h;rw[hst]at h;cases h)))
 |wait=>
  rw[show(aT A s E now)=lL s E by unfold aT;rw[hst]];unfold lL
  cases hc4:(s.σ.num (fP E.who)==2)with
  |true=>
   exact q3 (bU.put _ (by simp)) hL (fun h=>(by first|(cases h;done)|(have h:E.st=_:=h;rw[hst]at h;cases h)))
  |false=>
   exact q3 (bU.put _ (by simp)) hL (fun h=>(by first|(cases h;done)|(have h:E.st=_:=h;rw[hst]at h;cases h)))
 |result=>
  rw[show(aT A s E now)=⟨qY s E,E,true⟩ by unfold aT;rw[hst]]
  exact q3 (bU.put _ (by simp)) hL (fun h=>(by first|(cases h;done)|(have h:E.st=_:=h;rw[hst]at h;cases h)))
 |state=>
  rw[show(aT A s E now)=iM s E A.wk by unfold aT;rw[hst]];unfold iM
  cases hc4:(s.σ.num (fP E.j)==1)with
  |true=>
   exact q3 (bU.put _ (by simp)) hL (fun h=>(by first|(cases h;done)|(have h:E.st=_:=h;rw[hst]at h;cases h)))
  |false=>
   unfold fG
   cases hc6:decide ((A.wk:Int)≤E.j+1)with
   |true=>
    exact q3 (bU.put _ (by simp)) hL (fun h=>(by first|(cases h;done)|(have h:E.st=_:=h;rw[hst]at h;cases h)))
   |false=>
    exact q3 (bU.put _ (by simp)) hL (fun h=>(by first|(cases h;done)|(have h:E.st=_:=h;rw[hst]at h;cases h)))
 |arg=>
  rw[show(aT A s E now)=lC s E now by unfold aT;rw[hst]];unfold lC
  cases hc4:((mr s E).op==6)with
  |true=>
   exact q3 (bU.put _ (by simp)) hL (fun h=>(by first|(cases h;done)|(have h:E.st=_:=h;rw[hst]at h;cases h)))
  |false=>
   cases hc6:(vH (mr s E)==0)with
   |true=>
    exact q3 (bU.put _ (by simp)) hL (fun h=>(by first|(cases h;done)|(have h:E.st=_:=h;rw[hst]at h;cases h)))
   |false=>
    exact q3 (bU.put _ (by simp)) hL (fun h=>(by first|(cases h;done)|(have h:E.st=_:=h;rw[hst]at h;cases h)))
 |look=>
  rw[show(aT A s E now)=pK s E now by unfold aT;rw[hst]];unfold pK
  exact q3 (bU.put _ (by simp)) hL (fun h=>(by first|(cases h;done)|(have h:E.st=_:=h;rw[hst]at h;cases h)))
 |answer=>
  rw[show(aT A s E now)=jy s E by unfold aT;rw[hst]];unfold jy
  exact q3 (bU.put _ (by simp)) hL (fun h=>(by first|(cases h;done)|(have h:E.st=_:=h;rw[hst]at h;cases h)))
 |ready=>
  rw[show(aT A s E now)=lW s E A.wk by unfold aT;rw[hst]];unfold lW;unfold fG
  cases hc4:decide ((A.wk:Int)≤E.j+1)with
  |true=>
   exact q3 (bU.set _ _ (by simp)) hL (fun h=>(by first|(cases h;done)|(have h:E.st=_:=h;rw[hst]at h;cases h)))
  |false=>
   exact q3 (bU.set _ _ (by simp)) hL (fun h=>(by first|(cases h;done)|(have h:E.st=_:=h;rw[hst]at h;cases h)))
 |leave=>
  rw[show(aT A s E now)=oC s E by unfold aT;rw[hst]];unfold oC
  exact q3 (bU.set _ _ (by simp)) hL (fun h=>(by first|(cases h;done)|(have h:E.st=_:=h;rw[hst]at h;cases h)))
 |turn=>
  rw[show(aT A s E now)=qM s E by unfold aT;rw[hst]];unfold qM
  exact q3 (bU.set _ _ (by simp)) hL (fun h=>(by first|(cases h;done)|(have h:E.st=_:=h;rw[hst]at h;cases h)))
 |quiet=>
  rw[show(aT A s E now)=iO s E by unfold aT;rw[hst]];unfold iO
  cases hc4:wG (s.σ.num df)with
  |true=>
   exact q3 (bU.put _ (by simp)) hL (fun h=>(by first|(cases h;done)|(have h:E.st=_:=h;rw[hst]at h;cases h)))
  |false=>
   exact q3 (bU.put _ (by simp)) hL (fun h=>(by first|(cases h;done)|(have h:E.st=_:=h;rw[hst]at h;cases h)))
 |grab=>
  rw[show(aT A s E now)=jK s E A.sh by unfold aT;rw[hst]];unfold jK
  cases hc4:(s.σ.num (fB E.shard)==0)with
  |true=>
   unfold dX
   cases hc6:decide ((A.sh:Int)≤E.shard+1)with
   |true=>
    exact q3 (bU.set _ _ (by simp)) hL (fun h=>(by first|(cases h;done)|(have h:E.st=_:=h;rw[hst]at h;cases h)))
   |false=>
    exact q3 (bU.set _ _ (by simp)) hL (fun h=>(by first|(cases h;done)|(have h:E.st=_:=h;rw[hst]at h;cases h)))
  |false=>
   exact q3 (bU.set _ _ (by simp)) hL (fun h=>(by first|(cases h;done)|(have h:E.st=_:=h;rw[hst]at h;cases h)))
 |behind=>
  rw[show(aT A s E now)=mD s E by unfold aT;rw[hst]];unfold mD
  exact q3 (bU.put _ (by simp)) hL (fun h=>(by first|(cases h;done)|(have h:E.st=_:=h;rw[hst]at h;cases h)))
 |thing=>
  rw[show(aT A s E now)=fK s E A.sh by unfold aT;rw[hst]];unfold fK
  cases hc4:(E.link==0)with
  |true=>
   unfold dX
   cases hc6:decide ((A.sh:Int)≤(rD s E).shard+1)with
   |true=>
    exact q3 (bU.put _ (by simp)) hL (fun h=>(by first|(cases h;done)|(have h:E.st=_:=h;rw[hst]at h;cases h)))
   |false=>
    exact q3 (bU.put _ (by simp)) hL (fun h=>(by first|(cases h;done)|(have h:E.st=_:=h;rw[hst]at h;cases h)))
  |false=>
   exact q3 (bU.put _ (by simp)) hL (fun h=>(by first|(cases h;done)|(have h:E.st=_:=h;rw[hst]at h;cases h)))
 |same=>
  rw[show(aT A s E now)=jC s E now by unfold aT;rw[hst]];unfold jC
  cases hc4:(s.σ.num df==E.calm)with
  |true=>
   exact q3 (bU.put _ (by simp)) hL (fun h=>(by first|(cases h;done)|(have h:E.st=_:=h;rw[hst]at h;cases h)))
  |false=>
   exact q3 (bU.put _ (by simp)) hL (fun h=>(by first|(cases h;done)|(have h:E.st=_:=h;rw[hst]at h;cases h)))
 |pick=>
  rw[show(aT A s E now)=dpickO s E A.wd by unfold aT;rw[hst]];unfold dpickO
  split
  ·exact q3 (bU.put _ (by simp)) hL (fun h=>(by first|(cases h;done)|(have h:E.st=_:=h;rw[hst]at h;cases h)))
  ·exact q3 (bU.put _ (by simp)) hL (fun h=>(by first|(cases h;done)|(have h:E.st=_:=h;rw[hst]at h;cases h)))
 |shown=>
  rw[show(aT A s E now)=jO s E by unfold aT;rw[hst]];unfold jO
  cases hc4:uX s E with
  |true=>
   exact q3 (bU.put _ (by simp[Ba])) hL (fun h=>(by first|(cases h;done)|(have h:E.st=_:=h;rw[hst]at h;cases h)))
  |false=>
   exact q3 (bU.put _ (by simp[Ba])) hL (fun h=>(by first|(cases h;done)|(have h:E.st=_:=h;rw[hst]at h;cases h)))
 |get=>
  rw[show(aT A s E now)=nJ s E by unfold aT;rw[hst]];unfold nJ
  exact q3 (bU.put _ (by simp)) hL (fun h=>(by first|(cases h;done)|(have h:E.st=_:=h;rw[hst]at h;cases h)))
 |free'=>
  rw[show(aT A s E now)=qW s E by unfold aT;rw[hst]];unfold qW
  exact q3 (bU.set _ _ (by simp)) hL (fun h=>(by first|(cases h;done)|(have h:E.st=_:=h;rw[hst]at h;cases h)))
 |word=>
  rw[show(aT A s E now)=lN s E by unfold aT;rw[hst]];unfold lN
  cases hc4:jY s E with
  |true=>
   exact⟨.load (bQ (E.ri:Nat)) rfl rfl,hL.load _,fun h=>(by first|(cases h;done)|(have h:E.st=_:=h;rw[hst]at h;cases h))⟩
  |false=>
   exact⟨.load (bQ (E.ri:Nat)) rfl rfl,hL.load _,fun _=>kG.load hL _ _ rfl⟩
 |rest=>
  rw[show(aT A s E now)=qF s E by unfold aT;rw[hst]];unfold qF
  exact⟨.turn _ _ _ rfl,hL.turn _ (hA hst),fun h=>(by first|(cases h;done)|(have h:E.st=_:=h;rw[hst]at h;cases h))⟩
 |keep=>
  rw[show(aT A s E now)=lU s E A.wd by unfold aT;rw[hst]];unfold lU
  exact q3 (bU.put _ (by simp)) hL (fun h=>(by first|(cases h;done)|(have h:E.st=_:=h;rw[hst]at h;cases h)))
 |end'=>
  rw[show(aT A s E now)=nI s E by unfold aT;rw[hst]];unfold nI
  cases hc4:(E.left - 1==0)||(E.told.e==10)with
  |true=>
   exact q3 (bU.set _ _ (by simp)) hL (fun h=>(by first|(cases h;done)|(have h:E.st=_:=h;rw[hst]at h;cases h)))
  |false=>
   exact q3 (bU.set _ _ (by simp)) hL (fun h=>(by first|(cases h;done)|(have h:E.st=_:=h;rw[hst]at h;cases h)))
end
section
variable {A:PA} {rs:List Nat} {s:PS} {e:Nat} {As':List HA} {E:eQ}
theorem SI (now:Int) {c:Int} {dd:Bool} (d:Does prog [ae A rs s,FT A.P rs e E,bP] E.st.bz #[ptr e,J now] (bI c dd) As'):Does prog [ae A rs s,FT A.P rs e E,bP] 54 #[ptr e,J now] (bI c dd) As':=Does.ax fun S w0 w h=>by
 obtain⟨B,W,HB,HW,Sa⟩:=lX h;obtain⟨tv,wv,h3⟩:=Scope.mV h;have c7:At w e 6 (.func (.func E.st.bz) #[ptr e] #[]):=(h3.row (k:=e) 1 rfl).cell (j:=6) rfl;have lp:=(h3.row (k:=e) 1 rfl).lt;have hf:=E.st.enters;clear h h3
 go_enter func54,ntmps54
 go_wp2_with fail
 rw[←HB.out, ←HW.out];clear lp c7;refine(d.call (Bs:=[bK B 0]) Sa.out).mono ?_
 rintro er w1 ⟨rfl,s2⟩
 obtain⟨b0,b1,b2,b3,f0,f1,f2,f3,Q4⟩:=iK (Xs:=As') (c:=c) (sv:=nS) (n:=0) (v:=0) s2;clear s2
 go_wp2
 exact kz (Xs:=As') (d:=dd) rfl Q4 (fun Vz z0 z1 z2 z3=>by simp[results,results54,go_sem,z0,z1,z2,z3]) rfl fun _ q5=>q5
end
theorem Ph {A:PA} {s:PS} {E:jo} {now:Int} (hst:E.st≠ .make):(bC A s E now).s.ob.length=s.ob.length:=by
 unfold bC
 cases h:E.st with
 |make=>exact absurd h hst
 |come=>simp only;unfold gK;cases (decide (E.c.flow<0)||decide (1048576<E.c.flow))<;>cases (decide (E.c.a<1)||decide (65536<E.c.a))<;>cases (decide (E.c.b<1)||decide (8<E.c.b))<;>rfl
 |search=>simp only;unfold fD;cases kC s E<;>cases oM E A.sl<;>cases decide ((ig s E).free<0)<;>rfl
 |leave=>simp only;unfold iP;cases (decide (E.c.flow<0)||decide (1048576<E.c.flow))<;>rfl
 |find=>simp only;unfold jD;cases kC s E<;>cases oM E A.sl<;>rfl
 |wordAgain=>simp only;unfold dU;cases (wst (qw s E)==0)<;>rfl
 |seqAgain=>simp only;unfold eG;cases (s.σ.num gm==E.q)<;>rfl
 |shut=>simp only;unfold kM;cases s.σ.turned (E.ri:Nat) 2 E.w<;>rfl
 |enter=>rfl
 |put=>rfl
 |out=>rfl
 |lock=>rfl
 |word=>rfl
 |seq=>rfl
 |clear=>rfl
inductive ku where
 |e (E:jQ)
 |r (E:jo)
 |d (E:eQ)
def ku.f:ku→FuncId
 |.e _=>50
 |.r _=>52
 |.d _=>54
def iR (P:Nat) (rs:List Nat) (b:Nat):ku→HA
 |.e E=>mg P rs b E
 |.r E=>rW P rs b E
 |.d E=>FT P rs b E
structure MO where
 s:PS
 M:ku
 r:Rt
 d:Bool
def eu (A:PA) (s:PS) (M:ku) (now:Int):MO:=match M with
 |.e E=>⟨(aW s E A.sl now).s,.e (aW s E A.sl now).E,bD (aW s E A.sl now).c,(aW s E A.sl now).d⟩
 |.r E=>⟨(bC A s E now).s,.r (bC A s E now).E,bD (bC A s E now).c,(bC A s E now).d⟩
 |.d E=>⟨(aT A s E now).s,.d (aT A s E now).E,if E.st=.result then kF s E else bD 0,(aT A s E now).d⟩
def ku.who:ku→Int
 |.e E=>E.who
 |.r E=>E.who
 |.d E=>E.who
def ku.woken:ku→Nat
 |.e _=>0
 |.r _=>0
 |.d E=>E.woken.length
def MInv (A:PA) (s:PS) (N:Nat):ku→Prop
 |.e E=>zK A s E
 |.r E=>RInv A s E
 |.d E=>xh A s N E
def ku.arm (σ:MS):ku→Prop
 |.e E=>Uz σ E
 |.r E=>UK σ E
 |.d E=>UI σ E
section
variable {A:PA} {rs:List Nat} {s:PS} {b N m:Nat} {M:ku} {S:List Nat} {w0 w:World} {Bs:List HA}
theorem Nj (now:Int) (hA:Aq A) (hN:N≤20000) (hP:jd s N) (hK:oL A.wd s m) (hM:MInv A s N M):jd (eu A s M now).s (N+1)∧((eu A s M now).d=false→MInv A (eu A s M now).s (N+1) (eu A s M now).M)∧s.ob.length≤(eu A s M now).s.ob.length∧(∃ m',oL A.wd (eu A s M now).s m'∧m'+(eu A s M now).M.woken≤m+M.woken+1)∧(eu A s M now).M.who=M.who:=by
 cases M with
 |e E=>
  obtain⟨h1,h2,h3,h4,h5⟩:=A8 (E:=E) now hA hN hP hM
  exact⟨h1,h2,by show _≤(aW s E A.sl now).s.ob.length;omega,⟨m,hK.keep h4 (Nat.le_of_eq h3.symm),Nat.le_succ _⟩,h5⟩
 |r E=>
  obtain⟨h1,h2,h3,h4,h5⟩:=LU (E:=E) now hA hN hP hM
  exact⟨h1,h2,h3,⟨m,hK.keep h4 h3,Nat.le_succ _⟩,h5⟩
 |d E=>
  obtain⟨h1,h2,h3,h4,h5⟩:=zZ (E:=E) now hA hN hP hK hM
  exact⟨h1,h2,by show _≤(aT A s E now).s.ob.length;omega,h4,h5⟩
theorem NC (now:Int) (hL:dJ s.σ.log) (hA:M.arm s.σ):Eff M.who s.σ (eu A s M now).s.σ∧dJ (eu A s M now).s.σ.log∧(eu A s M now).M.arm (eu A s M now).s.σ:=by
 cases M with
 |e E=>exact MI (A:=A) now hL hA
 |r E=>exact Oh (A:=A) now hL hA
 |d E=>exact NU (A:=A) now hL hA
theorem MInv.other {s':PS} (h:MInv A s N M) (ho:s.ob.length≤s'.ob.length):MInv A s' (N+1) M:=by
 cases M with
 |e E=>
  have hE:zK A s E:=h
  exact(⟨hE.who,hE.sh,hE.i,hE.scan,hE.w,⟨hE.top.1,by have:=hE.top.2;omega⟩,fun k=>(hE.found k).mono ho,hE.look,fun k=>(hE.obj k).mono ho,hE.rg,fun i k=>by have:=hE.r i k;omega,hE.len⟩:zK A s' E)
 |r E=>
  have hE:RInv A s E:=h
  exact(⟨hE.who,hE.sh,hE.i,hE.scan,hE.free,hE.at',hE.w,hE.obj,fun k=>(hE.put k).mono ho,hE.a,hE.none,hE.rg,fun i k=>by have:=hE.r i k;omega,hE.flow⟩:RInv A s' E)
 |d E=>
  have hE:xh A s N E:=h
  exact(⟨hE.who,hE.j,hE.js,hE.left,hE.lp,hE.sh,hE.shs,fun k=>(hE.obj k).mono ho,⟨hE.link.1,by have:=hE.link.2;omega⟩,fun y hy=>⟨(hE.woken y hy).1.mono ho,(hE.woken y hy).2⟩,Nat.le_succ_of_le hE.wl,Nat.le_succ_of_le hE.pk,hE.n,hE.w,hE.x,hE.rg,fun i k=>by have:=hE.r i k;omega⟩:xh A s' (N+1) E)
theorem ku.N9 {σ σ':MS} {c:Int} (h:M.arm σ) (hne:M.who≠c) (e:Eff c σ σ'):M.arm σ':=by
 cases M with
 |e E=>exact fun k=>(h k).other rfl hne e
 |r E=>exact fun k=>(h k).other rfl hne e
 |d E=>exact fun k=>(h k).other rfl hne e
def ku.ring:ku→Option Nat
 |.e E=>E.r
 |.r E=>E.r
 |.d E=>E.r
theorem Gn (q:Nat) {r:Option Nat} (h:∀ i,r=some i→i<rs.length):rV (rs++[q]) r=rV rs r:=by
 cases r with
 |none=>rfl
 |some i=>
  have:=h i rfl
  unfold rV
  simp[List.getD,List.getElem?_append_left this]
theorem Pm (P q:Nat) (h:∀ i,M.ring=some i→i<rs.length):iR P (rs++[q]) b M=iR P rs b M:=by
 cases M with
 |e E=>show aS _ _ _ (rV (rs++[q]) E.r) _=aS _ _ _ (rV rs E.r) _;rw[Gn (r:=E.r) q h]
 |r E=>show aO _ _ _ (rV (rs++[q]) E.r) _=aO _ _ _ (rV rs E.r) _;rw[Gn (r:=E.r) q h]
 |d E=>show FT _ _ _ _=FT _ _ _ _;unfold FT dA;rw[Gn (r:=E.r) q h]
def Stepped (S:List Nat) (w0:World) (A:PA) (rs:List Nat) (b:Nat) (o:MO) (Bs:List HA) (e':Ending) (w':World):Prop:=
 ∃ rs' oa c,(rs'=rs∨∃ q,rs'=rs++[q])∧rs'.length=o.s.ob.length∧e'=.returned (.tuple #[o.r.val (.slice oa o.r.pk.length c),.bool o.d])∧Scope S w0 w' (ae A rs' o.s::iR A.P rs' b o.M::fO (.slice oa o.r.pk.length c) o.r.pk::bP::Bs)
set_option maxHeartbeats 1000000 in
theorem wH (now:Int) (hA:Aq A) (hrs:rs.length=s.ob.length) (hN:N≤20000) (hP:jd s N) (hK:oL A.wd s m) (hm:m+M.woken≤N) (hM:MInv A s N M) (h:Scope S w0 w (ae A rs s::iR A.P rs b M::bP::Bs)):
  Calls prog M.f #[ptr b,J now] w (Stepped S w0 A rs b (eu A s M now) Bs):=by
 have tk:∀ {w':World} {X Y:HA} {L:List HA},Scope S w0 w' (X::Y::L)→Scope S w0 w' (X::Y::fO (nS) []::L):=fun h=>by
  have h1:=jX 64 3 h
  exact(h1.perm (List.Perm.swap _ _ _)).perm (List.Perm.cons _ (List.Perm.swap _ _ _))
 cases M with
 |e E=>
  have hl:=(A8 (E:=E) now hA hN hP hM).2.2.1;refine((G5 (Ds:=[]) now (Gq (rs:=rs) (e:=b) now hA hrs hN hP hM)).call (Bs:=bP::Bs) h).mono ?_
  rintro e' w' ⟨rfl,h2⟩
  exact⟨rs,none,0,.inl rfl,by show _=(aW s E A.sl now).s.ob.length;omega,rfl,tk h2⟩
 |r E=>
  by_cases hst:E.st=.make
  ·refine((zo (Ds:=[]) now (GL (rs:=rs) (e:=b) now hst hA hN hP hM)).call (Bs:=bP::Bs) h).mono ?_
   rintro e' w' ⟨rfl,h2⟩
   obtain⟨q,h3⟩:=Scope.xq (F:=fun q=>aG [ae A (rs++[q]) (nP s A E),rW A.P (rs++[q]) b (kK s A E).E]) h2;have h4:Scope S w0 w' (ae A (rs++[q]) (nP s A E)::rW A.P (rs++[q]) b (kK s A E).E::bP::Bs):=Scope.gU h3;have e1:bC A s E now=kK s A E:=by unfold bC;rw[hst]
   refine⟨rs++[q],none,0,.inr ⟨q,rfl⟩,?_,?_,?_⟩
   ·show _=(bC A s E now).s.ob.length
    rw[e1]
    simp[kK,nP,PS.make,hrs]
   ·show _=Ending.returned (.tuple #[(bD (bC A s E now).c).val _,.bool (bC A s E now).d])
    rw[e1]
    rfl
   ·show Scope S w0 w' (ae A _ (bC A s E now).s::rW A.P _ b (bC A s E now).E::fO _ []::bP::Bs)
    rw[e1]
    exact tk h4
  ·refine((zo (Ds:=[]) now (KE (rs:=rs) (e:=b) now hst hA hrs hN hP hM)).call (Bs:=bP::Bs) h).mono ?_
   rintro e' w' ⟨rfl,h2⟩
   have hl:(bC A s E now).s.ob.length=s.ob.length:=Ph hst
   exact⟨rs,none,0,.inl rfl,by show _=(bC A s E now).s.ob.length;omega,rfl,tk h2⟩
 |d E=>
  have hE:xh A s N E:=hM;have hl:=(zZ (E:=E) now hA hN hP hK hM).2.2.1
  by_cases hst:E.st=.result
  ·obtain⟨tv,wv,h3⟩:=Scope.mV h
   refine(Bl hst now (je (by have:=hE.who;omega) (by have:=hE.who;omega)) (hP.l hN) h3).mono ?_
   rintro e' w' ⟨oa,c,rfl,h4⟩
   have e1:aT A s E now=⟨qY s E,E,true⟩:=by unfold aT;rw[hst]
   refine⟨rs,oa,c,.inl rfl,by show _=(aT A s E now).s.ob.length;omega,?_,?_⟩
   ·show _=Ending.returned (.tuple #[(if E.st=.result then kF s E else bD 0).val (.slice oa (if E.st=.result then kF s E else bD 0).pk.length c),.bool (aT A s E now).d])
    rw[if_pos hst,e1]
   ·show Scope S w0 w' (ae A rs (aT A s E now).s::FT A.P rs b (aT A s E now).E::fO (.slice oa (if E.st=.result then kF s E else bD 0).pk.length c) (if E.st=.result then kF s E else bD 0).pk::bP::Bs)
    rw[if_pos hst,e1];have h5:Scope S w0 w' (ae A rs (qY s E)::dA tv wv A.P rs b E::fO tv E.told.pk::rO wv E.woken::(fO (.slice oa (kF s E).pk.length c) (kF s E).pk::bP::Bs)):=h4.perm (List.Perm.cons _ (List.perm_middle (l₁:=[dA tv wv A.P rs b E,fO tv E.told.pk,rO wv E.woken])).symm)
    exact h5.mQ
  ·refine((SI now (Gm (rs:=rs) (e:=b) now hst hA hrs hN hP hK hm hM)).call (Bs:=Bs) h).mono ?_
   rintro e' w' ⟨rfl,h2⟩
   refine⟨rs,none,0,.inl rfl,by show _=(aT A s E now).s.ob.length;omega,?_,?_⟩
   ·show _=Ending.returned (.tuple #[(if E.st=.result then kF s E else bD 0).val (.slice none (if E.st=.result then kF s E else bD 0).pk.length 0),.bool (aT A s E now).d])
    rw[if_neg hst]
    rfl
   ·show Scope S w0 w' (ae A rs (aT A s E now).s::FT A.P rs b (aT A s E now).E::fO (.slice none (if E.st=.result then kF s E else bD 0).pk.length 0) (if E.st=.result then kF s E else bD 0).pk::bP::Bs)
    rw[if_neg hst]
    exact tk h2
end
def ku.new (A:PA) (who:Int) (c:Cl):ku:=cond (c.op==3) (.e (jQ.new who c (c.flow % (A.sh:Int)))) (cond (c.op==1||c.op==2) (.r (jo.new who c (c.flow % (A.sh:Int)))) (.d (eQ.new who c)))
section
variable {A:PA} {rs:List Nat} {s:PS} {p:Nat} {v1 v2 v3:Value} {S:List Nat} {w0 w:World} {Bs:List HA} {c:Cl}
theorem UU {e:Nat} {who:Int} (h:Scope S w0 w (ae A rs s::dA (nS) (nS) A.P rs e (eQ.new who c)::Bs)):Scope S w0 w (ae A rs s::FT A.P rs e (eQ.new who c)::Bs):=by
 have h1:=jX 64 3 (jX 293 4 h)
 exact Scope.mQ (tv:=nS) (wv:=nS) ((h1.front 3 rfl).front 3 rfl)
theorem xK (who:Int) (h1:1≤A.sh) (h4:A.sh≤4) (h:Scope S w0 w (ae A rs s::box p [ptr A.P,v1,v2,v3] 80::Bs)):Calls prog 39 #[ptr p,J who,c.val] w fun e' w'=>∃ b,e'=.returned (.func (.func (ku.new A who c).f) #[ptr b] #[])∧Scope S w0 w' (ae A rs s::iR A.P rs b (ku.new A who c)::box p [ptr A.P,v1,v2,v3] 80::Bs):=by
 obtain⟨B,hB⟩:∃ B,B=w.heap.size:=⟨_,rfl⟩
 obtain⟨W,hW⟩:∃ W,W=w.alloc (.cells #[J c.op,J c.flow,J c.a,J c.b] 49):=⟨_,rfl⟩
 have s1:=h.box [J c.op,J c.flow,J c.a,J c.b] 49;rw[←hB,show w.alloc (.cells ([J c.op,J c.flow,J c.a,J c.b]:List Value).toArray 49)=W from hW.symm]at s1;have s1:Scope S w0 W (ae A rs s::box p [ptr A.P,v1,v2,v3] 80::(Bs++[box B [J c.op,J c.flow,J c.a,J c.b] 49])):=s1;have Sa:=zd s1;have HB:=zd hB;have HW:=zd hW;obtain⟨M,hM⟩:∃ M,ku.new A who c=M:=⟨_,rfl⟩
 have HM:=zd hM;rw[hM];clear h s1 hB hW hM;have fin:∀ (w':World) (b:Nat),Scope S w0 w' (ae A rs s::iR A.P rs b M::(box p [ptr A.P,v1,v2,v3] 80::(Bs++[box B [J c.op,J c.flow,J c.a,J c.b] 49])))→Scope S w0 w' (ae A rs s::iR A.P rs b M::box p [ptr A.P,v1,v2,v3] 80::Bs):=fun w' b h=>Scope.drop (As:=ae A rs s::iR A.P rs b M::box p [ptr A.P,v1,v2,v3] 80::Bs) h
 have Fin:=zd fin;clear fin;obtain⟨b3,hb3⟩:∃ b,(c.op==3)=b:=⟨_,rfl⟩
 obtain⟨b1,hb1⟩:∃ b,(c.op==1)=b:=⟨_,rfl⟩
 obtain⟨b2,hb2⟩:∃ b,(c.op==2)=b:=⟨_,rfl⟩
 cases b3
 ·cases b1
  ·cases b2
   ·have hmac:M=.d (eQ.new who c):=by rw[←HM.out];unfold ku.new;simp only[hb3,hb1,hb2,Bool.or_self,Bool.or_false,Bool.false_or,Bool.or_true,Bool.true_or];rfl
    go_enter func39,ntmps39
    go_wp2_with fail
    rw[←HB.out,show w.alloc (.cells #[J c.op,J c.flow,J c.a,J c.b] 49)=W from HW.out.symm];refine aP (by kernel_rfl) ?_;have sd:=Sa.out.drew;generalize W.drew=V at sd ⊢
    have rp:=sd.row (k:=p) 1 rfl;have rb:=sd.row (k:=B) (vs:=[J c.op,J c.flow,J c.a,J c.b]) (t:=49) (Bs.length+2) (by simp);have h0:At V p 0 (ptr A.P)∧At V B 0 (J c.op)∧At V B 1 (J c.flow)∧At V B 2 (J c.a)∧At V B 3 (J c.b):=⟨rp.cell rfl,rb.cell rfl,rb.cell rfl,rb.cell rfl,rb.cell rfl⟩
    have Sd:=zd sd;clear sd rp rb Sa;refine aY [0,4] ?_
    repeat (refine ay _ rfl (by kernel_rfl) (fun _ _ _ h=>h) (fun w'=>by(try simp only[ag,ah,aj]);go_simp;try with_reducible rfl) ?_;try simp only[Act.put,ag,ah,aj,aF,aB,aC])
    refine aH ?_;refine bJ (fun w'=>At w' p 0 (ptr A.P)∧At w' B 0 (J c.op)∧At w' B 1 (J c.flow)∧At w' B 2 (J c.a)∧At w' B 3 (J c.b)) [1,2,3,5] ?_
    repeat (refine aN _ rfl (by kernel_rfl) (fun _ _ _ h=>h) h0 (fun w' hS=>by(try dsimp only at hS);(try simp only[ag,ah,aj]);go_simp;try with_reducible rfl) ?_;try simp only[Act.put,ag,ah,aj,aF,aB,aC])
    refine bH (by kernel_rfl) ?_;refine af 6 (by kernel_rfl) rfl (by rfl) fun K hK=>?_
    go_simp;refine(LM who (c:=c) Sd.out).mono ?_
    rintro er w1 ⟨b,rfl,s2⟩
    refine hK _ _ ?_;have S2:=zd (UU s2);clear hK K h0 s2 Sd
    try simp only[Act.put,ag,ah,aj,aF,aB,aC]
    refine aY [7,8] ?_
    repeat (refine ay _ rfl (by kernel_rfl) (fun _ _ _ h=>h) (fun w'=>by(try simp only[ag,ah,aj]);go_simp;try with_reducible rfl) ?_;try simp only[Act.put,ag,ah,aj,aF,aB,aC])
    refine aH ?_;refine wpAny_done (by kernel_rfl) ?_ _
    go_wp2
    go_ret
    refine⟨b,by rw[hmac];rfl,Fin.out w1 b ?_⟩;rw[hmac]
    exact S2.out
   ·have hmac:M=.r (jo.new who c (c.flow % (A.sh:Int))):=by rw[←HM.out];unfold ku.new;simp only[hb3,hb1,hb2,Bool.or_self,Bool.or_false,Bool.false_or,Bool.or_true,Bool.true_or];rfl
    go_enter func39,ntmps39
    go_wp2_with fail
    rw[←HB.out,show w.alloc (.cells #[J c.op,J c.flow,J c.a,J c.b] 49)=W from HW.out.symm];refine aP (by kernel_rfl) ?_;have sd:=Sa.out.drew;generalize W.drew=V at sd ⊢
    have rp:=sd.row (k:=p) 1 rfl;have rb:=sd.row (k:=B) (vs:=[J c.op,J c.flow,J c.a,J c.b]) (t:=49) (Bs.length+2) (by simp);have h0:At V p 0 (ptr A.P)∧At V B 0 (J c.op)∧At V B 1 (J c.flow)∧At V B 2 (J c.a)∧At V B 3 (J c.b):=⟨rp.cell rfl,rb.cell rfl,rb.cell rfl,rb.cell rfl,rb.cell rfl⟩
    have Sd:=zd sd;clear sd rp rb Sa;refine aY [0,4] ?_
    repeat (refine ay _ rfl (by kernel_rfl) (fun _ _ _ h=>h) (fun w'=>by(try simp only[ag,ah,aj]);go_simp;try with_reducible rfl) ?_;try simp only[Act.put,ag,ah,aj,aF,aB,aC])
    refine aH ?_;refine bJ (fun w'=>At w' p 0 (ptr A.P)∧At w' B 0 (J c.op)∧At w' B 1 (J c.flow)∧At w' B 2 (J c.a)∧At w' B 3 (J c.b)) [1,2,3,5] ?_
    repeat (refine aN _ rfl (by kernel_rfl) (fun _ _ _ h=>h) h0 (fun w' hS=>by(try dsimp only at hS);(try simp only[ag,ah,aj]);go_simp;try with_reducible rfl) ?_;try simp only[Act.put,ag,ah,aj,aF,aB,aC])
    refine bH (by kernel_rfl) ?_;refine af 6 (by kernel_rfl) rfl (by rfl) fun K hK=>?_
    go_simp;refine(AP who h1 h4 (c:=c) Sd.out).mono ?_
    rintro er w1 ⟨b,rfl,s2⟩
    refine hK _ _ ?_;have S2:=zd (s2);clear hK K h0 s2 Sd
    try simp only[Act.put,ag,ah,aj,aF,aB,aC]
    refine aY [7,8] ?_
    repeat (refine ay _ rfl (by kernel_rfl) (fun _ _ _ h=>h) (fun w'=>by(try simp only[ag,ah,aj]);go_simp;try with_reducible rfl) ?_;try simp only[Act.put,ag,ah,aj,aF,aB,aC])
    refine aH ?_;refine wpAny_done (by kernel_rfl) ?_ _
    go_wp2
    go_ret
    refine⟨b,by rw[hmac];rfl,Fin.out w1 b ?_⟩;rw[hmac]
    exact S2.out
  ·have hmac:M=.r (jo.new who c (c.flow % (A.sh:Int))):=by rw[←HM.out];unfold ku.new;simp only[hb3,hb1,Bool.true_or];rfl
   go_enter func39,ntmps39
   go_wp2_with fail
   rw[←HB.out,show w.alloc (.cells #[J c.op,J c.flow,J c.a,J c.b] 49)=W from HW.out.symm];refine aP (by kernel_rfl) ?_;have sd:=Sa.out.drew;generalize W.drew=V at sd ⊢
   have rp:=sd.row (k:=p) 1 rfl;have rb:=sd.row (k:=B) (vs:=[J c.op,J c.flow,J c.a,J c.b]) (t:=49) (Bs.length+2) (by simp);have h0:At V p 0 (ptr A.P)∧At V B 0 (J c.op)∧At V B 1 (J c.flow)∧At V B 2 (J c.a)∧At V B 3 (J c.b):=⟨rp.cell rfl,rb.cell rfl,rb.cell rfl,rb.cell rfl,rb.cell rfl⟩
   have Sd:=zd sd;clear sd rp rb Sa;refine aY [0,4] ?_
   repeat (refine ay _ rfl (by kernel_rfl) (fun _ _ _ h=>h) (fun w'=>by(try simp only[ag,ah,aj]);go_simp;try with_reducible rfl) ?_;try simp only[Act.put,ag,ah,aj,aF,aB,aC])
   refine aH ?_;refine bJ (fun w'=>At w' p 0 (ptr A.P)∧At w' B 0 (J c.op)∧At w' B 1 (J c.flow)∧At w' B 2 (J c.a)∧At w' B 3 (J c.b)) [1,2,3,5] ?_
   repeat (refine aN _ rfl (by kernel_rfl) (fun _ _ _ h=>h) h0 (fun w' hS=>by(try dsimp only at hS);(try simp only[ag,ah,aj]);go_simp;try with_reducible rfl) ?_;try simp only[Act.put,ag,ah,aj,aF,aB,aC])
   refine bH (by kernel_rfl) ?_;refine af 6 (by kernel_rfl) rfl (by rfl) fun K hK=>?_
   go_simp;refine(AP who h1 h4 (c:=c) Sd.out).mono ?_
   rintro er w1 ⟨b,rfl,s2⟩
   refine hK _ _ ?_;have S2:=zd (s2);clear hK K h0 s2 Sd
   try simp only[Act.put,ag,ah,aj,aF,aB,aC]
   refine aY [7,8] ?_
   repeat (refine ay _ rfl (by kernel_rfl) (fun _ _ _ h=>h) (fun w'=>by(try simp only[ag,ah,aj]);go_simp;try with_reducible rfl) ?_;try simp only[Act.put,ag,ah,aj,aF,aB,aC])
   refine aH ?_;refine wpAny_done (by kernel_rfl) ?_ _
   go_wp2
   go_ret
   refine⟨b,by rw[hmac];rfl,Fin.out w1 b ?_⟩;rw[hmac]
   exact S2.out
 ·have hmac:M=.e (jQ.new who c (c.flow % (A.sh:Int))):=by rw[←HM.out];unfold ku.new;simp only[hb3];rfl
  go_enter func39,ntmps39
  go_wp2_with fail
  rw[←HB.out,show w.alloc (.cells #[J c.op,J c.flow,J c.a,J c.b] 49)=W from HW.out.symm];refine aP (by kernel_rfl) ?_;have sd:=Sa.out.drew;generalize W.drew=V at sd ⊢
  have rp:=sd.row (k:=p) 1 rfl;have rb:=sd.row (k:=B) (vs:=[J c.op,J c.flow,J c.a,J c.b]) (t:=49) (Bs.length+2) (by simp);have h0:At V p 0 (ptr A.P)∧At V B 0 (J c.op)∧At V B 1 (J c.flow)∧At V B 2 (J c.a)∧At V B 3 (J c.b):=⟨rp.cell rfl,rb.cell rfl,rb.cell rfl,rb.cell rfl,rb.cell rfl⟩
  have Sd:=zd sd;clear sd rp rb Sa;refine aY [0,4] ?_
  repeat (refine ay _ rfl (by kernel_rfl) (fun _ _ _ h=>h) (fun w'=>by(try simp only[ag,ah,aj]);go_simp;try with_reducible rfl) ?_;try simp only[Act.put,ag,ah,aj,aF,aB,aC])
  refine aH ?_;refine bJ (fun w'=>At w' p 0 (ptr A.P)∧At w' B 0 (J c.op)∧At w' B 1 (J c.flow)∧At w' B 2 (J c.a)∧At w' B 3 (J c.b)) [1,2,3,5] ?_
  repeat (refine aN _ rfl (by kernel_rfl) (fun _ _ _ h=>h) h0 (fun w' hS=>by(try dsimp only at hS);(try simp only[ag,ah,aj]);go_simp;try with_reducible rfl) ?_;try simp only[Act.put,ag,ah,aj,aF,aB,aC])
  refine bH (by kernel_rfl) ?_;refine af 6 (by kernel_rfl) rfl (by rfl) fun K hK=>?_
  go_simp;refine(MV who h1 h4 (c:=c) Sd.out).mono ?_
  rintro er w1 ⟨b,rfl,s2⟩
  refine hK _ _ ?_;have S2:=zd (s2);clear hK K h0 s2 Sd
  try simp only[Act.put,ag,ah,aj,aF,aB,aC]
  refine aY [7,8] ?_
  repeat (refine ay _ rfl (by kernel_rfl) (fun _ _ _ h=>h) (fun w'=>by(try simp only[ag,ah,aj]);go_simp;try with_reducible rfl) ?_;try simp only[Act.put,ag,ah,aj,aF,aB,aC])
  refine aH ?_;refine wpAny_done (by kernel_rfl) ?_ _
  go_wp2
  go_ret
  refine⟨b,by rw[hmac];rfl,Fin.out w1 b ?_⟩;rw[hmac]
  exact S2.out
end
structure Dn where
 who:Int
 place:Int
 c:Cl
 r:Rt
 fr:Int
 te:Int
def bG (y:Dn×Value):List Value:=[J y.1.who,J y.1.place,J y.1.c.op,J y.1.c.flow,J y.1.c.a,J y.1.c.b,J y.1.r.e,y.2,J y.1.r.n,Ju y.1.r.v,J y.1.fr,J y.1.te]
section
variable {A:PA} {rs:List Nat} {s:PS} {p g n i k nl:Nat} {steps left:Int} {wcs:List Value} {lv dv:Value} {L:List Cl} {ds:List Value} {S:List Nat} {w0 w:World} {Bs:List HA} {c:Cl}
theorem LZ (hi:i<n) (h0:wcs[i*3]? =some lv) (h1:wcs[i*3+1]? =some dv) (h:Scope S w0 w (ae A rs s::box p [ptr A.P,.slice (some ⟨g,0,none⟩) n n,J steps,J left] 80::box g wcs 94::aU lv 49 4 nl (recs Cl.cells L)::aU dv 62 12 nl ds::Bs)):
  Calls prog 27 #[ptr p,J (i:Nat)] w fun e' w'=>e'=.returned (.bool false)∧Scope S w0 w' (ae A rs s::box p [ptr A.P,.slice (some ⟨g,0,none⟩) n n,J steps,J left] 80::box g wcs 94::aU lv 49 4 nl (recs Cl.cells L)::aU dv 62 12 nl ds::Bs):=by
 obtain⟨oa,cl,hlv,_⟩:=(h.front 3 rfl).jh;obtain⟨od,cd,hdv,_⟩:=(h.front 4 rfl).jh;have rp:=h.row (k:=p) 1 rfl;have rg:=h.row (k:=g) 2 rfl;have c1:=rp.cell (j:=1) rfl;have g0:=rg.cell h0;have g1:=rg.cell h1;rw[hlv]at g0;rw[hdv]at g1;have lg:=rg.lt;have H:=zd h;clear h rp rg h0 h1 hlv hdv
 go_enter func27,ntmps27
 go_wp2
 go_ret
 exact⟨rfl,H.out⟩
theorem Kr (hA1:1≤A.sh) (hA4:A.sh≤4) (hi:i<n) (hn:n≤6) (hk:L[k]? =some c) (hnl:nl=L.length) (hl60:nl≤1000) (h0:wcs[i*3]? =some lv) (h1:wcs[i*3+1]? =some dv) (h2:(wcs[i*3+2]?).isSome) (h:Scope S w0 w (ae A rs s::box p [ptr A.P,.slice (some ⟨g,0,none⟩) n n,J steps,J left] 80::box g wcs 94::aU lv 49 4 nl (recs Cl.cells L)::aU dv 62 12 k ds::Bs)):
  Calls prog 27 #[ptr p,J (i:Nat)] w fun e' w'=>∃ dv' b,e'=.returned (.bool true)∧Scope S w0 w' (ae A rs { s with pl:=upd s.pl (i:Nat) (k:Nat) }::box p [ptr A.P,.slice (some ⟨g,0,none⟩) n n,J steps,J left] 80::box g ((wcs.set (i*3+1) dv').set (i*3+2) (.func (.func (ku.new A (i:Nat) c).f) #[ptr b] #[])) 94::aU lv 49 4 nl (recs Cl.cells L)::aU dv' 62 12 (k+1) (ds++bG (⟨(i:Nat),(k:Nat),c,Rt.zero,steps, -1⟩,nS))::iR A.P rs b (ku.new A (i:Nat) c)::Bs):=by
 have hkl:k<nl:=by rw[hnl];exact(List.getElem?_eq_some_iff.1 hk).1
 obtain⟨i1,hi1⟩:=Option.isSome_iff_exists.1 (show(prog.info? 62).isSome=true by kernel_rfl);obtain⟨hx0,hx1,hx2⟩:=lF 62 hi1 (z:=.agg #[J 0,J 0,J 0,J 0,J 0,J 0,J 0,nS,J 0,Ju 0,J 0,J 0]) (s:=12) (b:=112) (by kernel_rfl) (by kernel_rfl) (by kernel_rfl);obtain⟨gl,cl,rest,hlv,hx,hc1,hc2,hc3,hc4⟩:=Scope.qj (h.front 3 rfl) (by omega:0<nl);obtain⟨od,cd,hdv,hd1,hd2⟩:=(h.front 4 rfl).jh;subst hlv;subst hdv;obtain⟨co,cf,ca,cb⟩:=c;have facts:∀ (w':World) (Cs:List HA),Scope S w0 w' (ae A rs s::box p [ptr A.P,.slice (some ⟨g,0,none⟩) n n,J steps,J left] 80::box g wcs 94::aU (.slice (some ⟨gl,0,none⟩) nl cl) 49 4 nl (recs Cl.cells L)::Cs)→At w' p 0 (ptr A.P)∧At w' p 1 (.slice (some ⟨g,0,none⟩) n n)∧At w' p 2 (J steps)∧At w' g (i*3) (.slice (some ⟨gl,0,none⟩) nl cl)∧At w' g (i*3+1) (.slice od k cd)∧At w' gl (k*4) (J co)∧At w' gl (k*4+1) (J cf)∧At w' gl (k*4+2) (J ca)∧At w' gl (k*4+3) (J cb):=fun w' Cs sc=>by
  obtain⟨gl',cl',rest',hv',hy,_⟩:=Scope.qj (sc.front 3 rfl) (by omega:0<nl);obtain⟨rfl,rfl⟩:gl=gl'∧cl=cl':=by cases hv';exact⟨rfl,rfl⟩
  have rl:=hy.row (k:=gl) 0 rfl;have rp:=sc.row (k:=p) 1 rfl;have rg:=sc.row (k:=g) 2 rfl
  exact⟨rp.cell rfl,rp.cell rfl,rp.cell rfl,rg.cell h0,rg.cell h1,rl.cell (eH (c:=Cl.cells) (n:=4) (fun _=>rfl) hk (j:=0) (by omega) rest'),rl.cell (eH (c:=Cl.cells) (n:=4) (fun _=>rfl) hk (j:=1) (by omega) rest'),rl.cell (eH (c:=Cl.cells) (n:=4) (fun _=>rfl) hk (j:=2) (by omega) rest'),rl.cell (eH (c:=Cl.cells) (n:=4) (fun _=>rfl) hk (j:=3) (by omega) rest')⟩
 have f0:=facts w _ h;obtain⟨a0,a1,a2,b0,b1,d0,d1,d2,d3⟩:=f0;have lg:=(h.row (k:=g) 2 rfl).lt;have lgl:=(hx.row (k:=gl) 0 rfl).lt;have S1:=zd h.drew;have H0:=zd h0;have H1:=zd h1;have H2:=zd h2;have Hk:=zd hk;have Hi1:=zd hi1;have Hx0:=zd hx0;have Hx1:=zd hx1;have Hx2:=zd hx2;have Facts:=zd facts;have Hd1:=zd hd1;have Hd2:=zd hd2;have Hnl:=zd hnl;have Hhn:=zd hn;clear h hx facts h0 h1 h2 hk hi1 hx0 hx1 hx2 hc1 hc2 hc3 hc4 hd1 hd2 hnl
 go_enter func27,ntmps27
 go_wp2_with fail
 refine aP (by kernel_rfl) ?_;have sd:=S1.out;generalize w.drew=V at sd ⊢
 have h0:=Facts.out V _ sd;have Sd:=zd sd;clear sd S1 a0 a1 a2 b0 b1 d0 d1 d2 d3 lg lgl;refine aY [0,1,5,6,7,11,14] ?_
 repeat (refine ay _ rfl (by kernel_rfl) (fun _ _ _ h=>h) (fun w'=>by(try simp only[ag,ah,aj]);go_simp;try with_reducible rfl) ?_;try simp only[Act.put,ag,ah,aj,aF,aB,aC])
 refine aH ?_;refine cu (fun w'=>At w' p 0 (ptr A.P)∧At w' p 1 (.slice (some ⟨g,0,none⟩) n n)∧At w' p 2 (J steps)∧At w' g (i*3) (.slice (some ⟨gl,0,none⟩) nl cl)∧At w' g (i*3+1) (.slice od k cd)∧At w' gl (k*4) (J co)∧At w' gl (k*4+1) (J cf)∧At w' gl (k*4+2) (J ca)∧At w' gl (k*4+3) (J cb)) [2,3,4,8,9,10,12,13,15,16,17,18,19] [2,3,4,8,9,10,12,13,15,16,17] ?_
 repeat (refine aN _ rfl (by kernel_rfl) (fun _ _ _ h=>h) h0 (fun w' hS=>by(try dsimp only at hS);(try simp only[ag,ah,aj]);go_simp;try with_reducible rfl) ?_;try simp only[Act.put,ag,ah,aj,aF,aB,aC])
 refine bM ?_;refine dB [18] ?_
 repeat (refine aN _ rfl (by kernel_rfl) (fun _ _ _ h=>h) h0 (fun w' hS=>by(try simp only[ag,ah,aj]);go_simp;try with_reducible rfl) ?_;try simp only[Act.put,ag,ah,aj,aF,aB,aC])
 refine bM ?_;have s3:Scope S w0 (V.alloc (.cells #[J (i:Nat),J (k:Nat),J co,J cf,J ca,J cb,J 0,nS,J 0,Ju 0,J steps,J (-1)] 62)) (ae A rs s::box p [ptr A.P,.slice (some ⟨g,0,none⟩) n n,J steps,J left] 80::box g wcs 94::aU (.slice (some ⟨gl,0,none⟩) nl cl) 49 4 nl (recs Cl.cells L)::aU (.slice od k cd) 62 12 k ds::(Bs++[box V.heap.size [J (i:Nat),J (k:Nat),J co,J cf,J ca,J cb,J 0,nS,J 0,Ju 0,J steps,J (-1)] 62])):=Sd.out.box [J (i:Nat),J (k:Nat),J co,J cf,J ca,J cb,J 0,nS,J 0,Ju 0,J steps,J (-1)] 62;have h1:=Facts.out _ _ s3;have S3:=zd s3;clear s3 Sd;refine aK 19 (by kernel_rfl) rfl (by rfl) fun K hK=>?_
 go_simp;refine hK _ _ ⟨fun _=>h1,?_⟩;clear hK K h0 h1
 try simp only[Act.put,ag,ah,aj,aF,aB,aC]
 refine dB [] (bH (by kernel_rfl) ?_);refine af 20 (by kernel_rfl) rfl (by rfl) fun K hK=>?_
 refine wp_append_lies _ _ _ _ rfl 0 62 i1 _ 12 112 underlying56 Hi1.out Hx0.out Hx1.out Hx2.out rfl (by omega) (.slice od k cd) k ds (by rfl) (S3.out.jb 4 rfl) ⟨V.heap.size,0,none⟩ 1 1 [J (i:Nat),J (k:Nat),J co,J cf,J ca,J cb,J 0,nS,J 0,Ju 0,J steps,J (-1)] (by rfl) (by rfl) (World.news_of_block (cs:=#[J (i:Nat),J (k:Nat),J co,J cf,J ca,J cb,J 0,nS,J 0,Ju 0,J steps,J (-1)]) (t:=62) (fr:=(0,0)) (heap_alloc_new V _)) (by simp[Value.oneCell'])
  (by omega) (by unfold maxLen;omega) (by omega) (by omega) (V.heap.size+1) (by simp) ?_
 intro gg cap' w4 own gro hat hlt
 refine hK _ _ ?_;have s7:=Scope.appends (S3.out.front 4 rfl) own gro (hat.imp id (fun h=>h.trans (by simp)));have s7:Scope S w0 w4 ([aU (.slice (some ⟨gg,0,none⟩) (k+1) cap') 62 12 (k+1) (ds++[J (i:Nat),J (k:Nat),J co,J cf,J ca,J cb,J 0,nS,J 0,Ju 0,J steps,J (-1)]),ae A rs s,box p [ptr A.P,.slice (some ⟨g,0,none⟩) n n,J steps,J left] 80]++([box g wcs 94]++(aU (.slice (some ⟨gl,0,none⟩) nl cl) 49 4 nl (recs Cl.cells L)::(Bs++[box V.heap.size [J (i:Nat),J (k:Nat),J co,J cf,J ca,J cb,J 0,nS,J 0,Ju 0,J steps,J (-1)] 62])))):=s7;have rg:=s7.row (k:=g) 3 rfl;have c1:=rg.cell H1.out;have f1:=rg.free (i*3+1);have S8:=zd (Scope.au s7 (i*3+1) (.slice (some ⟨gg,0,none⟩) (k+1) cap'));clear hK K own gro hat hlt S3 s7 rg
 try simp only[Act.put,ag,ah,aj,aF,aB,aC]
 refine aY [21,22] ?_
 repeat (refine ay _ rfl (by kernel_rfl) (fun _ _ _ h=>h) (fun w'=>by(try simp only[ag,ah,aj]);go_simp;try with_reducible rfl) ?_;try simp only[Act.put,ag,ah,aj,aF,aB,aC])
 refine aH ?_;refine af 23 (by kernel_rfl) rfl (by rfl) fun K hK=>?_
 go_simp;refine hK _ _ ?_;clear hK K
 try simp only[Act.put,ag,ah,aj,aF,aB,aC]
 refine wpAny_done (by kernel_rfl) ?_ _;clear c1 f1;obtain⟨V5,hV5⟩:∃ V5,V5=w4.setCell ⟨g,i*3+1,none⟩ (.slice (some ⟨gg,0,none⟩) (k+1) cap'):=⟨_,rfl⟩
 have s8:=S8.out;rw[←hV5]at s8 ⊢
 obtain⟨wc2,hwc⟩:∃ x,x=wcs.set (i*3+1) (.slice (some ⟨gg,0,none⟩) (k+1) cap'):=⟨_,rfl⟩
 rw[←hwc]at s8;have g0:wc2[i*3]? =some (.slice (some ⟨gl,0,none⟩) nl cl):=by rw[hwc,List.getElem?_set_ne (by omega)];exact H0.out
 have g2:(wc2[i*3+2]?).isSome:=by rw[hwc,List.getElem?_set_ne (by omega)];exact H2.out
 have facts2:∀ (w':World) (s':PS) (Cs:List HA),Scope S w0 w' (ae A rs s'::box p [ptr A.P,.slice (some ⟨g,0,none⟩) n n,J steps,J left] 80::box g wc2 94::aU (.slice (some ⟨gl,0,none⟩) nl cl) 49 4 nl (recs Cl.cells L)::Cs)→At w' p 0 (ptr A.P)∧At w' g (i*3) (.slice (some ⟨gl,0,none⟩) nl cl)∧At w' gl (k*4) (J co)∧At w' gl (k*4+1) (J cf)∧At w' gl (k*4+2) (J ca)∧At w' gl (k*4+3) (J cb):=fun w' s' Cs sc=>by
  obtain⟨gl',cl',rest',hv',hy,_⟩:=Scope.qj (sc.front 3 rfl) (by omega:0<nl);obtain⟨rfl,rfl⟩:gl=gl'∧cl=cl':=by cases hv';exact⟨rfl,rfl⟩
  have rl:=hy.row (k:=gl) 0 rfl;have rp:=sc.row (k:=p) 1 rfl;have rg:=sc.row (k:=g) 2 rfl
  exact⟨rp.cell rfl,rg.cell g0,rl.cell (eH (c:=Cl.cells) (n:=4) (fun _=>rfl) Hk.out (j:=0) (by omega) rest'),rl.cell (eH (c:=Cl.cells) (n:=4) (fun _=>rfl) Hk.out (j:=1) (by omega) rest'),rl.cell (eH (c:=Cl.cells) (n:=4) (fun _=>rfl) Hk.out (j:=2) (by omega) rest'),rl.cell (eH (c:=Cl.cells) (n:=4) (fun _=>rfl) Hk.out (j:=3) (by omega) rest')⟩
 have s9:Scope S w0 V5 (ae A rs s::box p [ptr A.P,.slice (some ⟨g,0,none⟩) n n,J steps,J left] 80::box g wc2 94::aU (.slice (some ⟨gl,0,none⟩) nl cl) 49 4 nl (recs Cl.cells L)::aU (.slice (some ⟨gg,0,none⟩) (k+1) cap') 62 12 (k+1) (ds++[J (i:Nat),J (k:Nat),J co,J cf,J ca,J cb,J 0,nS,J 0,Ju 0,J steps,J (-1)])::Bs):=
  Scope.drop (Bs:=[box V.heap.size [J (i:Nat),J (k:Nat),J co,J cf,J ca,J cb,J 0,nS,J 0,Ju 0,J steps,J (-1)] 62]) (Scope.perm s8 ((List.perm_middle (l₁:=[ae A rs s,box p [ptr A.P,.slice (some ⟨g,0,none⟩) n n,J steps,J left] 80,box g wc2 94,aU (.slice (some ⟨gl,0,none⟩) nl cl) 49 4 nl (recs Cl.cells L)])).symm))
 have q0:=(s9.row (k:=p) 1 rfl).cell (j:=0) rfl;have S9:=zd s9;have Facts2:=zd facts2;have Hwc:=zd hwc;have G2:=zd g2;clear s8 s9 hV5 S8 facts2 hwc g0 g2
 go_wp2_with fail
 clear q0;refine((Fz (i:Nat) (k:Nat) (je (by omega) (by omega))).at0 S9.out).mono ?_
 rintro er w6 ⟨rfl,s10⟩
 obtain⟨e0,e1,e2,e3,e4,e5⟩:=Facts2.out w6 _ _ s10;have lg:=(s10.row (k:=g) 2 rfl).lt;have S10:=zd s10;clear s10 S9
 go_wp2_with fail
 clear e0 e1 e2 e3 e4 e5 lg;refine(xK (c:=⟨co,cf,ca,cb⟩) (i:Nat) hA1 hA4 S10.out).mono ?_
 rintro er w7 ⟨b,rfl,s11⟩
 have s11:Scope S w0 w7 ([ae A rs { s with pl:=upd s.pl (i:Nat) (k:Nat) },iR A.P rs b (ku.new A (i:Nat) ⟨co,cf,ca,cb⟩),box p [ptr A.P,.slice (some ⟨g,0,none⟩) n n,J steps,J left] 80]++([box g wc2 94]++(aU (.slice (some ⟨gl,0,none⟩) nl cl) 49 4 nl (recs Cl.cells L)::aU (.slice (some ⟨gg,0,none⟩) (k+1) cap') 62 12 (k+1) (ds++[J (i:Nat),J (k:Nat),J co,J cf,J ca,J cb,J 0,nS,J 0,Ju 0,J steps,J (-1)])::Bs))):=s11;obtain⟨u0,hu0⟩:=Option.isSome_iff_exists.1 G2.out;have rg:=s11.row (k:=g) 3 rfl;have c2:=rg.cell hu0;have f2:=rg.free (i*3+2);have lg:=rg.lt;obtain⟨M,hM⟩:∃ M,ku.new A (i:Nat) ⟨co,cf,ca,cb⟩=M:=⟨_,rfl⟩
 rw[hM]at s11 ⊢
 have S12:=zd (Scope.au s11 (i*3+2) (.func (.func M.f) #[ptr b] #[]));have HM:=zd hM;clear s11 rg hu0 S10 hM
 go_wp2
 go_ret
 refine⟨.slice (some ⟨gg,0,none⟩) (k+1) cap',b,rfl,?_⟩;rw[HM.out, ←Hwc.out];have s14:Scope S w0 _ (ae A rs { s with pl:=upd s.pl (i:Nat) (k:Nat) }::iR A.P rs b M::([box p [ptr A.P,.slice (some ⟨g,0,none⟩) n n,J steps,J left] 80,box g (wc2.set (i*3+2) (.func (.func M.f) #[ptr b] #[])) 94,aU (.slice (some ⟨gl,0,none⟩) nl cl) 49 4 nl (recs Cl.cells L),aU (.slice (some ⟨gg,0,none⟩) (k+1) cap') 62 12 (k+1) (ds++[J (i:Nat),J (k:Nat),J co,J cf,J ca,J cb,J 0,nS,J 0,Ju 0,J steps,J (-1)])]++Bs)):=S12.out;have s15:Scope S w0 _ (ae A rs { s with pl:=upd s.pl (i:Nat) (k:Nat) }::([box p [ptr A.P,.slice (some ⟨g,0,none⟩) n n,J steps,J left] 80,box g (wc2.set (i*3+2) (.func (.func M.f) #[ptr b] #[])) 94,aU (.slice (some ⟨gl,0,none⟩) nl cl) 49 4 nl (recs Cl.cells L),aU (.slice (some ⟨gg,0,none⟩) (k+1) cap') 62 12 (k+1) (ds++[J (i:Nat),J (k:Nat),J co,J cf,J ca,J cb,J 0,nS,J 0,Ju 0,J steps,J (-1)])]++iR A.P rs b M::Bs)):=s14.perm (List.Perm.cons _ List.perm_middle.symm)
 exact s15
end
end Go.Proofs.YtjnbbmgbmiggbaaGreatDoor
