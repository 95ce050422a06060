/- Lemmas for TopTries' card: new rings; the queue as plain functions; drawn regions; maps as functions; bits; slices. -/
import Derived.Lib.TrailingZeros
import Derived.MapKept
import Derived.Laws.Externs
import Derived.Laws.Bits64b
import Derived.Lib.Mul64
import Derived.Test.YtjnbbmgbmiggbaaGreatDoorZ03
set_option linter.unusedSimpArgs false
set_option linter.unusedVariables false
set_option maxRecDepth 20000
set_option maxHeartbeats 4000000
namespace Go.Proofs.YtjnbbmgbmiggbaaGreatDoor
open Go Go.RowKit Go.Maps Go.Proofs.Tryz
def vZ (v:Int):Nat:=(min (max v 1) 8).toNat
theorem Ol (v:Int):(v<1∧vZ v=1)∨(v=1∧vZ v=1)∨(v=2∧vZ v=2)∨(v=3∧vZ v=3)∨(v=4∧vZ v=4)∨(v=5∧vZ v=5)∨(v=6∧vZ v=6)∨(v=7∧vZ v=7)∨(v=8∧vZ v=8)∨(8<v∧vZ v=8):=by unfold vZ;omega
theorem Vk (v:Int):1≤vZ v∧vZ v≤8:=by unfold vZ;omega
def zeros (n:Nat):List Pk:=List.replicate n Pk.zero
theorem Scope.last2 {S:List Nat} {w0 w:World} {As:List HA} {A B:HA} (h:Scope S w0 w (As++[A,B])):Scope S w0 w (As++[B,A]):=by
 have h1:Scope S w0 w ([A]++([B]++As)):=by simpa using(Scope.swap (As:=As) (Bs:=[A,B]) (Cs:=[]) (by simpa using h))
 have h2:=h1.swap
 simpa using(Scope.swap (As:=[B,A]) (Bs:=As) (Cs:=[]) (by simpa using h2))
def vY (S:List Nat) (w0:World) (As:List HA) (m:Nat) (obj:Int) (n:Nat) (e:Ending) (w':World):Prop:=∃ p g,e=.returned (ptr p)∧Scope S w0 w' (As++[rb p m obj g n,gb g (zeros n)])
theorem vY.mk {S:List Nat} {w0 w:World} {As:List HA} {m:Nat} {obj:Int} {n:Nat} (h:Scope S w0 w As):
  vY S w0 As m obj n (.returned (ptr (w.heap.size+1))) ((w.alloc (.cells (iU (zeros n)).toArray 64)).alloc (.cells #[ptr m,J obj,.slice (some ⟨w.heap.size,0,none⟩) n n] 272)):=by
 have h1:=h.box (iU (zeros n)) 64;have h2:=h1.box [ptr m,J obj,.slice (some ⟨w.heap.size,0,none⟩) n n] 272;have e:(w.alloc (.cells (iU (zeros n)).toArray 64)).heap.size=w.heap.size+1:=by first|rfl|simp
 rw[e]at h2
 exact⟨_,_,rfl,Scope.last2 (by simpa using h2)⟩
theorem G8 {S:List Nat} {w0 w:World} {As:List HA} (h:Scope S w0 w As) (m:Nat) (obj most:Int):Calls prog 216 #[ptr m,J obj,J most] w (vY S w0 As m obj (vZ most)):=by
 have H0:=zd h;clear h
 rcases Ol most with⟨a,b⟩|⟨rfl,b⟩|⟨rfl,b⟩|⟨rfl,b⟩|⟨rfl,b⟩|⟨rfl,b⟩|⟨rfl,b⟩|⟨rfl,b⟩|⟨rfl,b⟩|⟨a,b⟩
 ·rw[b]
  clear b;have hmk:∀ w,(Instr.makeSlice 58 (J 1) (J 1)).run prog w=.ok (.slice (some ⟨w.heap.size,0,none⟩) 1 1) (w.alloc (.cells (iU (zeros 1)).toArray 64)):=fun _=>by kernel_rfl
  go_enter func216,ntmps216
  go_wp2
  all_goals first|(exfalso;omega)|(go_ret;exact vY.mk H0.out)
 ·rw[b]
  clear b;have hmk:∀ w,(Instr.makeSlice 58 (J 1) (J 1)).run prog w=.ok (.slice (some ⟨w.heap.size,0,none⟩) 1 1) (w.alloc (.cells (iU (zeros 1)).toArray 64)):=fun _=>by kernel_rfl
  go_enter func216,ntmps216
  go_wp2
  go_ret
  exact vY.mk H0.out
 ·rw[b]
  clear b;have hmk:∀ w,(Instr.makeSlice 58 (J 2) (J 2)).run prog w=.ok (.slice (some ⟨w.heap.size,0,none⟩) 2 2) (w.alloc (.cells (iU (zeros 2)).toArray 64)):=fun _=>by kernel_rfl
  go_enter func216,ntmps216
  go_wp2
  go_ret
  exact vY.mk H0.out
 ·rw[b]
  clear b;have hmk:∀ w,(Instr.makeSlice 58 (J 3) (J 3)).run prog w=.ok (.slice (some ⟨w.heap.size,0,none⟩) 3 3) (w.alloc (.cells (iU (zeros 3)).toArray 64)):=fun _=>by kernel_rfl
  go_enter func216,ntmps216
  go_wp2
  go_ret
  exact vY.mk H0.out
 ·rw[b]
  clear b;have hmk:∀ w,(Instr.makeSlice 58 (J 4) (J 4)).run prog w=.ok (.slice (some ⟨w.heap.size,0,none⟩) 4 4) (w.alloc (.cells (iU (zeros 4)).toArray 64)):=fun _=>by kernel_rfl
  go_enter func216,ntmps216
  go_wp2
  go_ret
  exact vY.mk H0.out
 ·rw[b]
  clear b;have hmk:∀ w,(Instr.makeSlice 58 (J 5) (J 5)).run prog w=.ok (.slice (some ⟨w.heap.size,0,none⟩) 5 5) (w.alloc (.cells (iU (zeros 5)).toArray 64)):=fun _=>by kernel_rfl
  go_enter func216,ntmps216
  go_wp2
  go_ret
  exact vY.mk H0.out
 ·rw[b]
  clear b;have hmk:∀ w,(Instr.makeSlice 58 (J 6) (J 6)).run prog w=.ok (.slice (some ⟨w.heap.size,0,none⟩) 6 6) (w.alloc (.cells (iU (zeros 6)).toArray 64)):=fun _=>by kernel_rfl
  go_enter func216,ntmps216
  go_wp2
  go_ret
  exact vY.mk H0.out
 ·rw[b]
  clear b;have hmk:∀ w,(Instr.makeSlice 58 (J 7) (J 7)).run prog w=.ok (.slice (some ⟨w.heap.size,0,none⟩) 7 7) (w.alloc (.cells (iU (zeros 7)).toArray 64)):=fun _=>by kernel_rfl
  go_enter func216,ntmps216
  go_wp2
  go_ret
  exact vY.mk H0.out
 ·rw[b]
  clear b;have hmk:∀ w,(Instr.makeSlice 58 (J 8) (J 8)).run prog w=.ok (.slice (some ⟨w.heap.size,0,none⟩) 8 8) (w.alloc (.cells (iU (zeros 8)).toArray 64)):=fun _=>by kernel_rfl
  go_enter func216,ntmps216
  go_wp2
  go_ret
  exact vY.mk H0.out
 ·rw[b]
  clear b;have hmk:∀ w,(Instr.makeSlice 58 (J 8) (J 8)).run prog w=.ok (.slice (some ⟨w.heap.size,0,none⟩) 8 8) (w.alloc (.cells (iU (zeros 8)).toArray 64)):=fun _=>by kernel_rfl
  go_enter func216,ntmps216
  go_wp2
  all_goals first|(exfalso;omega)|(go_ret;exact vY.mk H0.out)
structure It where
 key:Nat
 id:Int
 deriving DecidableEq
def It.zero:It:=⟨0,0⟩
def ahead (a b:It):Bool:=decide (a.key<b.key∨a.key=b.key∧a.id<b.id)
def upd {α β:Type} [DecidableEq α] (f:α→β) (i:α) (v:β):α→β:=fun x=>if x=i then v else f x
theorem upd_same {α β:Type} [DecidableEq α] (f:α→β) (i:α) (v:β):upd f i v i=v:=if_pos rfl
theorem upd_ne {α β:Type} [DecidableEq α] (f:α→β) {i j:α} (v:β) (h:j≠i):upd f i v j=f j:=if_neg h
def gq (l:List It) (i j:Nat):List It:=(l.set i (l.getD j .zero)).set j (l.getD i .zero)
theorem ji (l:List It) (i j:Nat):(gq l i j).length=l.length:=by simp[gq]
def hup:Nat→List It→Nat→List It
 |0,l,_=>l
 |f+1,l,i=>if i=0∨ahead (l.getD i .zero) (l.getD ((i - 1) / 2) .zero)=false then l else hup f (gq l i ((i - 1) / 2)) ((i - 1) / 2)
def hl1 (l:List It) (i:Nat):Nat:=if 2*i+1<l.length∧ahead (l.getD (2*i+1) .zero) (l.getD i .zero)=true then 2*i+1 else i
def jc (l:List It) (i:Nat):Nat:=if 2*i+2<l.length∧ahead (l.getD (2*i+2) .zero) (l.getD (hl1 l i) .zero)=true then 2*i+2 else hl1 l i
def hdown:Nat→List It→Nat→List It
 |0,l,_=>l
 |f+1,l,i=>if jc l i=i then l else hdown f (gq l i (jc l i)) (jc l i)
def hhas (l:List It) (id:Int):Bool:=l.any fun x=>x.id==id
def hpush (l:List It) (x:It):List It×Bool:=if hhas l x.id=true then(l,false)else(hup (l.length+1) (l++[x]) l.length,true)
def hcut (l:List It) (i:Nat):List It:=(gq l i (l.length - 1)).take (l.length - 1)
def gu (l:List It) (i:Nat):List It:=if i<l.length - 1 then hdown (l.length - 1) (hup (i+1) (hcut l i) i) i else hcut l i
def hdrop (l:List It) (id:Int):List It:=
 match l.findIdx? (fun x=>x.id==id)with
 |none=>l
 |some i=>gu l i
theorem nH (f:Nat) (l:List It) (i:Nat):(hup f l i).length=l.length:=by
 induction f generalizing l i with
 |zero=>rfl
 |succ f ih=>unfold hup;split<;>first|rfl|rw[ih,ji]
theorem BP (f:Nat) (l:List It) (i:Nat):(hdown f l i).length=l.length:=by
 induction f generalizing l i with
 |zero=>rfl
 |succ f ih=>unfold hdown;split<;>first|rfl|rw[ih,ji]
theorem qB (l:List It) (i:Nat):(hcut l i).length=l.length - 1:=by simp[hcut,ji]
theorem kX (l:List It) (i:Nat):(gu l i).length=l.length - 1:=by
 unfold gu;split
 ·rw[BP,nH,qB]
 ·rw[qB]
structure Wh where
 base:Nat
 bk:Nat→List It
 mp:Nat→Nat
 keys:Int→Option Nat
def Wh.new:Wh:=⟨0,fun _=>[],fun _=>0,fun _=>none⟩
def hw (width:Int):Nat:=(min (max width 0) 40).toNat
def eY (wd base key:Nat):Int:=
 if key<base then -1 else if (base ^^^ key) >>> (wd+6)=0 then 0 else if (base ^^^ key) >>> (wd+12)=0 then 1 else if (base ^^^ key) >>> (wd+18)=0 then 2 else 3
def jv (wd key l:Nat):Nat:=(key >>> (wd+6*l)) % 64
def Wh.place (wd:Nat) (W:Wh) (key:Nat):Option (Nat×Nat):=
 if 0≤eY wd W.base key∧eY wd W.base key<3 then some ((eY wd W.base key).toNat,jv wd key (eY wd W.base key).toNat)else none
def Wh.add (W:Wh) (l b:Nat) (x:It):Wh:=⟨W.base,upd W.bk (64*l+b) (W.bk (64*l+b)++[x]),upd W.mp l (W.mp l ||| 2 ^ b),W.keys⟩
def Wh.put (wd:Nat) (W:Wh) (x:It):Wh:=
 match W.place wd x.key with
 |none=>W
 |some p=>W.add p.1 p.2 x
def Wh.has (W:Wh) (id:Int):Bool:=(W.keys id).isSome
def Wh.key (W:Wh) (id:Int) (k:Option Nat):Wh:=⟨W.base,W.bk,W.mp,upd W.keys id k⟩
def Wh.push (wd:Nat) (W:Wh) (x:It):Wh×Bool:=
 if (W.place wd x.key).isNone=true∨W.has x.id=true then(W,false)else((W.key x.id (some x.key)).put wd x,true)
def Ns (L:List It):It:=L.foldl (fun x y=>if ahead y x=true then y else x) (L.headD .zero)
def Wh.minL (W:Wh) (l:Nat):Option It:=if W.mp l=0 then none else some (Ns (W.bk (64*l+Lib.ctz 64 (W.mp l))))
def Wh.min (W:Wh):Option It:=
 match W.minL 0 with
 |some x=>some x
 |none=>match W.minL 1 with
  |some x=>some x
  |none=>W.minL 2
def Wh.empty (W:Wh) (l b:Nat):Wh:=⟨W.base,upd W.bk (64*l+b) [],upd W.mp l (W.mp l &&& (18446744073709551615 - 2 ^ b)),W.keys⟩
def Wh.spread (wd:Nat) (W:Wh) (ys:List It):Wh:=ys.foldl (fun V y=>V.put wd y) W
def Wh.at (W:Wh) (to:Nat):Wh:=⟨to,W.bk,W.mp,W.keys⟩
def Wh.sink (wd:Nat) (W:Wh) (to l:Nat):Wh:=(W.empty l (jv wd to l)).spread wd (W.bk (64*l+jv wd to l))
def tooFar (x:Option It) (to:Nat):Bool:=match x with|none=>false|some x=>decide (x.key<to)
def Wh.move (wd:Nat) (W:Wh) (to:Nat):Wh×Bool:=
 if to<W.base∨tooFar W.min to=true then(W,false)else((((W.at to).sink wd to 2).sink wd to 1),true)
def Wh.cut (W:Wh) (l b:Nat) (x:It):Wh:=⟨W.base,upd W.bk (64*l+b) ((W.bk (64*l+b)).filter fun y=> !decide (y=x)),W.mp,W.keys⟩
def Wh.lq (W:Wh) (l b:Nat) (x:It):Wh:=if ((W.cut l b x).bk (64*l+b)).length=0 then(W.cut l b x).empty l b else W.cut l b x
def Wh.drop (wd:Nat) (W:Wh) (id:Int):Wh×Option It:=
 match W.keys id with
 |none=>(W,none)
 |some k=>((W.key id none).lq (((W.key id none).place wd k).getD (0,0)).1 (((W.key id none).place wd k).getD (0,0)).2 ⟨k,id⟩,some ⟨k,id⟩)
structure Sh where
 w:Wh
 far:List It
def Sh.new:Sh:=⟨.new,[]⟩
def Sh.has (S:Sh) (id:Int):Bool:=S.w.has id||hhas S.far id
def min2 (x y:Option It):Option It:=
 match x with
 |none=>y
 |some x=>match y with
  |none=>some x
  |some y=>if ahead y x=true then some y else some x
def Sh.min (S:Sh):Option It:=min2 S.w.min S.far.head?
def Sh.push (wd:Nat) (S:Sh) (x:It):Sh×Bool:=
 if eY wd S.w.base x.key<0∨S.has x.id=true then(S,false)
 else if 2<eY wd S.w.base x.key then(⟨S.w,(hpush S.far x).1⟩,(hpush S.far x).2)
 else(⟨(S.w.push wd x).1,S.far⟩,(S.w.push wd x).2)
def Sh.over (wd:Nat):Nat→Sh→Sh
 |0,S=>S
 |f+1,S=>match S.far.head? with
  |none=>S
  |some x=>if (S.w.push wd x).2=true then Sh.over wd f ⟨(S.w.push wd x).1,gu S.far 0⟩else S
def Sh.drop (wd:Nat) (S:Sh) (id:Int):Sh:=if hhas S.far id=true then⟨S.w,hdrop S.far id⟩else⟨(S.w.drop wd id).1,S.far⟩
def Sh.move (wd:Nat) (S:Sh) (to:Nat):Sh×Bool:=
 if tooFar S.min to=true∨(S.w.move wd to).2=false then(S,false)else(Sh.over wd (S.far.length+1) ⟨(S.w.move wd to).1,S.far⟩,true)
def Sh.pop (wd:Nat) (S:Sh):Sh×Option It:=
 match S.min with
 |none=>(S,none)
 |some x=>(((S.drop wd x.id).move wd x.key).1,some x)
structure To where
 leaves:List (It×Bool)
 nodes:List Int
def To.size (T:To):Nat:=T.nodes.length / 2
def better (leaves:List (It×Bool)) (a b:Int):Int:=
 if a<0∨(0≤b∧ahead (leaves.getD b.toNat (.zero,false)).1 (leaves.getD a.toNat (.zero,false)).1=true)then b else a
def tup (leaves:List (It×Bool)):Nat→List Int→Nat→List Int
 |0,l,_=>l
 |f+1,l,k=>if k=0 then l else tup leaves f (l.set k (better leaves (l.getD (2*k) 0) (l.getD (2*k+1) 0))) (k / 2)
def wR (i:Nat) (f:It×Bool):Int:=if f.2=true then(i:Int)else -1
def To.qx (T:To) (i:Nat) (f:It×Bool):To:=
 ⟨T.leaves.set i f,tup (T.leaves.set i f) (T.size+i) (T.nodes.set (T.size+i) (wR i f)) ((T.size+i) / 2)⟩
def To.win (T:To):Option (Nat×It):=if T.nodes.getD 1 0<0 then none else some ((T.nodes.getD 1 0).toNat,(T.leaves.getD (T.nodes.getD 1 0).toNat (.zero,false)).1)
def oK (n:Nat):Nat:=if n≤1 then 1 else if n≤2 then 2 else 4
def To.new (n:Nat):To:=⟨List.replicate n (.zero,false),List.replicate (2*oK n) (-1)⟩
structure Qu where
 sh:List Sh
 t:To
def Qu.new (n:Nat):Qu:=⟨List.replicate n .new,.new n⟩
def qP (x:Option It):It×Bool:=match x with|none=>(.zero,false)|some x=>(x,true)
def Qu.turn (q:Qu) (i:Nat) (S:Sh):Qu:=⟨q.sh.set i S,q.t.qx i (qP S.min)⟩
def Qu.ix (q:Qu) (id:Int):Nat:=(id % (q.sh.length:Int)).toNat
def Qu.push (wd:Nat) (q:Qu) (x:It):Qu×Bool:=
 if x.id<0 then(q,false)
 else if ((q.sh.getD (q.ix x.id) .new).push wd x).2=true then(q.turn (q.ix x.id) ((q.sh.getD (q.ix x.id) .new).push wd x).1,true)else(q,false)
def Qu.pop (wd:Nat) (q:Qu):Qu×Option It:=
 match q.t.win with
 |none=>(q,none)
 |some p=>(q.turn p.1 ((q.sh.getD p.1 .new).pop wd).1,some (((q.sh.getD p.1 .new).pop wd).2.getD .zero))
structure Th where
 flow:Int
 r:Nat
 finish:Nat
 place:Nat
 deriving DecidableEq
def Th.zero:Th:=⟨0,0,0,0⟩
structure Co where
 q:Qu
 v:Nat
 most:Nat
 served:Int
 th:Int→Th
 ow:Int→Int
 last:Bool×Int×Nat
def Co.new (n:Nat):Co:=⟨.new n,0,0,0,fun _=>.zero,fun _=>0,(false,0,0)⟩
def Dc (a b:Nat):Nat:=if a+b<18446744073709551616 then a+b else 18446744073709551615
def F9 (a b:Nat):Nat:=if a*b<18446744073709551616 then a*b else 18446744073709551615
def wV (size:Int) (r:Nat):Nat:=F9 (max size 0).toNat r
structure Ob where
 flow:Int
 most:Int
 r:Nat
 deriving DecidableEq
def Ob.zero:Ob:=⟨0,0,0⟩
def Co.wake (wd:Nat) (k:Co) (obj:Int) (o:Ob):Co:=
 if (k.q.push wd ⟨max k.v (k.th obj).finish,o.flow⟩).2=true then
  ⟨(k.q.push wd ⟨max k.v (k.th obj).finish,o.flow⟩).1,k.v,k.most,k.served,upd k.th obj ⟨o.flow,o.r,(k.th obj).finish,(k.th obj).place⟩,upd k.ow o.flow obj,k.last⟩
 else k
def Co.pick (wd:Nat) (k:Co):Co×Option (Int×Nat):=
 match (k.q.pop wd).2 with
 |none=>(⟨k.q,max k.v k.most,k.most,k.served,k.th,k.ow,k.last⟩,none)
 |some x=>(⟨(k.q.pop wd).1,x.key,k.most,k.served,k.th,k.ow,(true,k.ow x.id,x.key)⟩,some (k.ow x.id,(k.th (k.ow x.id)).place))
def Th.served (x:Th) (key:Nat) (size:Int):Th:=⟨x.flow,x.r,Dc key (wV size x.r),(x.place+1) % 18446744073709551616⟩
def Co.done (wd:Nat) (k:Co) (size:Int) (more:Bool):Co:=
 if k.last.1=false then k else
 let x:=(k.th k.last.2.1).served k.last.2.2 size
 ⟨if more=true then(k.q.push wd ⟨x.finish,x.flow⟩).1 else k.q,k.v,max k.most x.finish,k.served+1,upd k.th k.last.2.1 x,k.ow,(false,0,0)⟩
open Go Go.Proofs.Tryz
section
variable {P:Program} {ops:Array Oper} {Q:Exit→Act→World→Prop} {md:Region.Mode} {S:World→Prop} {U D:List Nat}
def waitsD (md:Region.Mode) (ops:Array Oper) (i:Nat) (D:List Nat):Bool:=D.all fun d=>match ops[d]? with
 |some o=>o.after.any fun e=>Region.binds md e&&(e.on==i||D.contains e.on)
 |none=>false
theorem Eo {i d:Nat} (h:waitsD md ops i D=true) (hd:d∈D) {o:Oper} (ho:ops[d]? =some o):∃ e∈o.after,Region.binds md e=true∧(e.on=i∨e.on∈D):=by
 unfold waitsD at h;rw[List.all_eq_true]at h
 have:=h d hd
 rw[ho]at this;obtain⟨e,he,hb⟩:=Array.any_eq_true'.1 this;simp only[Bool.and_eq_true,Bool.or_eq_true,beq_iff_eq,List.contains_iff_mem]at hb
 exact⟨e,he,hb.1,hb.2⟩
def Lm (md:Region.Mode) (ops:Array Oper) (listed:Array Bool) (i:Nat) (D:List Nat):Bool:=
 match ops[i]? with
 |none=>false
 |some oi=>(List.range ops.size).all fun j=>j==i||listed.getD j true||D.contains j||match ops[j]? with
   |some oj=>oj.after.any (fun e=>Region.binds md e&&e.on==i)||oi.apart ops oj
   |none=>true
theorem JL {i:Nat} {oi:Oper} {listed:Array Bool} (hi:ops[i]? =some oi) (h:Lm md ops listed i D=true) (j:Nat) (oj:Oper)
  (hj:ops[j]? =some oj) (hne:j≠i) (hD:j∉D) (hun:listed.getD j true=false) (hno:∀ e∈oj.after,Region.binds md e=true→e.on≠i):oi.apart ops oj=true:=by
 simp only[Lm,hi,List.all_eq_true,List.mem_range]at h;have h1:=h j (Array.getElem?_eq_some_iff.1 hj).1;have hc:D.contains j=false:=by simpa using hD
 simp only[hj,Bool.or_eq_true,beq_iff_eq,hne,false_or,hun,hc,Bool.false_eq_true]at h1
 rcases h1 with h1|h1
 ·obtain⟨e,he,hb⟩:=Array.any_eq_true'.1 h1
  simp only[Bool.and_eq_true,beq_iff_eq]at hb
  exact absurd hb.2 (hno e he hb.1)
 ·exact h1
def xB (md:Region.Mode) (ops:Array Oper) (listed:Array Bool) (U:List Nat) (i:Nat) (D:List Nat):Bool:=
 (List.range ops.size).all fun j=>listed.getD j true||U.contains j||D.contains j||match ops[j]? with
  |some o=>o.after.any fun e=>Region.binds md e&&e.on==i
  |none=>true
theorem BM {i j:Nat} {o:Oper} {listed:Array Bool} (h:xB md ops listed U i D=true) (hl:listed.getD j true=false) (hj:ops[j]? =some o) (hn:U.contains j=false) (hd:j∉D):∃ e∈o.after,Region.binds md e=true∧e.on=i:=by
 unfold xB at h;rw[List.all_eq_true]at h
 have:=h j (List.mem_range.2 (Array.getElem?_eq_some_iff.1 hj).1)
 have hc:D.contains j=false:=by simpa using hd
 rw[hn,hj,hl,hc]at this;simp only[Bool.false_or]at this;obtain⟨e,he,hb⟩:=Array.any_eq_true'.1 this;simp only[Bool.and_eq_true,beq_iff_eq]at hb
 exact⟨e,he,hb⟩
theorem tu {listed:Array Bool} {k:Nat} (h1:listed.getD k true=false) (h2:listed.getD k false=true):False:=by
 rcases Nat.lt_or_ge k listed.size with h'|h'
 ·simp[h']at h1 h2
  rw[h1]at h2
  cases h2
 ·simp[Array.getElem?_eq_none h']at h1
theorem zN {i:Nat} {oi:Oper} {v:Value} {S':World→Prop} {l0:Array Bool} (hi:ops[i]? =some oi) (hback:∀ w,S' w→U.contains i=true→S w) (hW:waitsD md ops i D=true)
  (hSS:∀ (j:Nat) (oj:Oper) (w:World),l0.getD j true=false→ops[j]? =some oj→j∉D→(∀ e∈oj.after,Region.binds md e=true→e.on≠i)→(U.contains j=true→S w)→S' w) (hsel:∀ (j:Nat) (o:Oper) cs b,ops[j]? =some o→o.op≠ .select cs b)
  (hQ:∀ c a w,Q (.panic c) (a.put oi.dst v) w→Q (.panic c) a w):
  ∀ (fuel:Nat) (listed:Array Bool) (a:Act) (w:World),(∀ j,listed.getD j true=false→l0.getD j true=false)→(∀ d∈D,listed.getD d true=false)→
   (∀ j oj,ops[j]? =some oj→j≠i→j∉D→listed.getD j true=false→(∀ e∈oj.after,Region.binds md e=true→e.on≠i)→oi.apart ops oj=true)→
   i∈Region.ready md ops listed→YieldsIf P ops S' oi v a→S' w→
   iH P md ops Q S U fuel (listed.setIfInBounds i true) (a.put oi.dst v) w→iH P md ops Q S U (fuel+1) listed a w:=by
 intro fuel
 induction fuel with
 |zero=>
  intro listed a w _ _ _ hr hy hS H
  refine⟨fun h=>(by rw[h]at hr;cases hr),fun j hj=>?_⟩
  by_cases hji:j=i
  ·subst hji
   exact hy.wpOp hi hS ⟨hback _ hS,H⟩
  ·have hm:=ready_mono hj hji
   rw[H.1]at hm
   cases hm
 |succ fuel ih=>
  intro listed a w hl0 hDl hfree hr hy hS H
  refine⟨fun h=>(by rw[h]at hr;cases hr),fun j hj=>?_⟩
  by_cases hji:j=i
  ·subst hji
   exact hy.wpOp hi hS ⟨hback _ hS,H⟩
  ·have hstep:=H.2 j (ready_mono hj hji)
   obtain⟨hjun,oj,hoj,hall⟩:=mem_ready.1 hj;have hiun:=(mem_ready.1 hr).1;have hnot:∀ e∈oj.after,Region.binds md e=true→e.on≠i:=fun e he hb heq=>by
    have h1:=hall e he hb;rw[heq]at h1
    exact tu hiun h1
   have hjD:j∉D:=fun hd=>by
    obtain⟨e,he,hb,h⟩:=Eo hW hd hoj;have h1:=hall e he hb
    rcases h with h|h
    ·rw[h]at h1
     exact tu hiun h1
    ·exact tu (hDl _ h) h1
   have hl1:∀ k,(listed.setIfInBounds j true).getD k true=false→l0.getD k true=false:=fun k hk=>by
    by_cases e:j=k
    ·subst e;exact hl0 j hjun
    ·rw[getD_set_ne true e]at hk;exact hl0 k hk
   have hDl1:∀ d∈D,(listed.setIfInBounds j true).getD d true=false:=fun d hd=>by
    have e:j≠d:=fun e=>hjD (e▸hd)
    rw[getD_set_ne true e];exact hDl d hd
   have hput:=wpOp_putIf hoj (hfree j oj hoj hji hjD hjun hnot) (fun cs b=>hsel i oi cs b hi) (fun cs b=>hsel j oj cs b hoj) hQ hy hstep;have hfree':∀ k ok,ops[k]? =some ok→k≠i→k∉D→(listed.setIfInBounds j true).getD k true=false→(∀ e∈ok.after,Region.binds md e=true→e.on≠i)→oi.apart ops ok=true:=fun k ok hk hki hkD hun hno=>by
    refine hfree k ok hk hki hkD ?_ hno
    by_cases hjk:j=k
    ·subst hjk;exact hjun
    ·rw[getD_set_ne true hjk]at hun;exact hun
   refine wpOp_mono (fun a' w' h3=>⟨h3.2.1,ih (listed.setIfInBounds j true) a' w' hl1 hDl1 hfree' (ready_mono hr (Ne.symm hji)) h3.1 (hSS j oj w' (hl0 j hjun) hoj hjD hnot h3.2.1) ?_⟩) hput;rw[Array.setIfInBounds_comm _ _ hji]
   exact h3.2.2
theorem pU (D:List Nat) {i:Nat} {oi:Oper} {v:Value} {fuel:Nat} {listed:Array Bool} {a:Act} {w:World} (hi:ops[i]? =some oi)
  (hs:Region.noSelect ops=true) (hW:waitsD md ops i D=true) (hDl:(D.all fun d=>listed.getD d true==false)=true) (hf:Lm md ops listed i D=true) (hU:xB md ops listed U i D=true) (hr:(Region.ready md ops listed).contains i=true)
  (hQ:∀ c a w,Q (.panic c) (a.put oi.dst v) w→Q (.panic c) a w) (hy:YieldsIf P ops S oi v a) (hS:S w)
  (h:iH P md ops Q S U fuel (listed.setIfInBounds i true) (a.put oi.dst v) w):iH P md ops Q S U (fuel+1) listed a w:=
 zN (D:=D) (S':=S) (l0:=listed) hi (fun _ h _=>h) hW (fun j oj w hl hj hd hnot hk=>by
  cases hc:U.contains j with
  |true=>exact hk hc
  |false=>
   obtain⟨e,he,hb,heq⟩:=BM hU hl hj hc hd
   exact absurd heq (hnot e he hb)) (Region.noSelect_spec hs) hQ fuel listed a w (fun _ h=>h) (fun d hd=>by rw[List.all_eq_true]at hDl;simpa using hDl d hd) (JL hi hf) (by simpa using hr) hy hS h
def Iu (md:Region.Mode) (ops:Array Oper) (listed:Array Bool) (U:List Nat) (i:Nat) (D:List Nat):Bool:=
 Region.noSelect ops&&waitsD md ops i D&&(D.all fun d=>listed.getD d true==false)&&Lm md ops listed i D&&xB md ops listed U i D&&(Region.ready md ops listed).contains i
theorem bg (D:List Nat) {i:Nat} {oi:Oper} {v:Value} {fuel:Nat} {listed:Array Bool} {a:Act} {w:World} (hi:ops[i]? =some oi) (hc:Iu md ops listed U i D=true)
  (hQ:∀ c a w,Q (.panic c) (a.put oi.dst v) w→Q (.panic c) a w) (hy:YieldsIf P ops S oi v a) (hS:S w)
  (h:iH P md ops Q S U fuel (listed.setIfInBounds i true) (a.put oi.dst v) w):iH P md ops Q S U (fuel+1) listed a w:=by
 unfold Iu at hc;simp only[Bool.and_eq_true]at hc;obtain⟨⟨⟨⟨⟨h1,h2⟩,h3⟩,h4⟩,h5⟩,h6⟩:=hc
 exact pU D hi h1 h2 h3 h4 h5 h6 hQ hy hS h
end
section
variable {P:Program} {ops:Array Oper} {Q:Exit→Act→World→Prop} {md:Region.Mode} {S:World→Prop} {U L:List Nat}
def VF (md:Region.Mode) (ops:Array Oper) (listed:Array Bool) (i:Nat):List Nat:=
 (List.range ops.size).foldl (fun D j=>if (j != i&& !listed.getD j true&&(match ops[j]? with
  |some o=>o.after.any fun e=>Region.binds md e&&(e.on==i||D.contains e.on)
  |none=>false))then j::D else D) []
def nC (P:Program) (md:Region.Mode) (ops:Array Oper) (Q:Exit→Act→World→Prop) (S:World→Prop) (U _L:List Nat) (fuel:Nat) (listed:Array Bool) (a:Act) (w:World):Prop:=iH P md ops Q S U fuel listed a w
variable {fuel:Nat} {listed:Array Bool} {a:Act} {w:World}
theorem bJ (S:World→Prop) (L:List Nat) (h:nC P md ops Q S L L fuel listed a w):wpAny P md ops Q fuel listed a w:=bu _ _ _ _ h
theorem cu (S:World→Prop) (U L:List Nat) (h:nC P md ops Q S U L fuel listed a w):wpAny P md ops Q fuel listed a w:=bu _ _ _ _ h
theorem bH (hu:(U.all fun j=>listed.getD j true)=true) (h:wpAny P md ops Q fuel listed a w):nC P md ops Q S U [] fuel listed a w:=
 aX _ _ _ _ (fun j hj=>by rw[List.all_eq_true]at hu;exact hu j (by simpa using hj)) h
theorem dB (L:List Nat) (h:nC P md ops Q S U L fuel listed a w):iH P md ops Q S U fuel listed a w:=h
theorem bM (h:iH P md ops Q S U fuel listed a w):nC P md ops Q S U [] fuel listed a w:=h
theorem aN {i:Nat} {oi:Oper} (v:Value) (hi:ops[i]? =some oi) (hc:(Iu md ops listed U i (VF md ops listed i)&&Region.wanted oi (yielded ops a.tmps))=true)
  (hQ:∀ c a w,Q (.panic c) (a.put oi.dst v) w→Q (.panic c) a w) (hS:S w) (hy:∀ w,S w→(execOp a.eval oi).run P w=.ok (.value v) w)
  (h:nC P md ops Q S U L fuel (listed.setIfInBounds i true) (a.put oi.dst v) w):nC P md ops Q S U (i::L) (fuel+1) listed a w:=by
 unfold Iu at hc;simp only[Bool.and_eq_true]at hc;obtain⟨⟨⟨⟨⟨⟨h1,h2⟩,h3⟩,h4⟩,h5⟩,h6⟩,hg⟩:=hc
 exact pU _ hi h1 h2 h3 h4 h5 h6 hQ (Or.inl ⟨hg,hy⟩) hS h
theorem PO {i:Nat} {oi:Oper} (v:Value) (hi:ops[i]? =some oi) (hc:Iu md ops listed U i (VF md ops listed i)=true)
  (hQ:∀ c a w,Q (.panic c) (a.put oi.dst v) w→Q (.panic c) a w) (hS:S w) (hg:Region.wanted oi (yielded ops a.tmps)=true) (hy:∀ w,S w→(execOp a.eval oi).run P w=.ok (.value v) w)
  (h:nC P md ops Q S U L fuel (listed.setIfInBounds i true) (a.put oi.dst v) w):nC P md ops Q S U (i::L) (fuel+1) listed a w:=
 aN v hi (by rw[hc,hg];rfl) hQ hS hy h
theorem Qh {i:Nat} {oi:Oper} (hi:ops[i]? =some oi) (hc:Iu md ops listed U i (VF md ops listed i)=true)
  (hQ:∀ c a w,Q (.panic c) (a.put oi.dst undef) w→Q (.panic c) a w) (hS:S w) (hg:Region.wanted oi (yielded ops a.tmps)=false)
  (h:nC P md ops Q S U L fuel (listed.setIfInBounds i true) (a.put oi.dst undef) w):nC P md ops Q S U (i::L) (fuel+1) listed a w:=by
 unfold Iu at hc;simp only[Bool.and_eq_true]at hc;obtain⟨⟨⟨⟨⟨h1,h2⟩,h3⟩,h4⟩,h5⟩,h6⟩:=hc
 exact pU _ hi h1 h2 h3 h4 h5 h6 hQ (Or.inr ⟨hg,rfl⟩) hS h
def Cm (P:Program) (md:Region.Mode) (ops:Array Oper) (Q:Exit→Act→World→Prop) (_L:List Nat) (fuel:Nat) (listed:Array Bool) (a:Act) (w:World):Prop:=wpAny P md ops Q fuel listed a w
theorem aY (L:List Nat) (h:Cm P md ops Q L fuel listed a w):wpAny P md ops Q fuel listed a w:=h
theorem aH (h:wpAny P md ops Q fuel listed a w):Cm P md ops Q [] fuel listed a w:=h
theorem ay {i:Nat} {oi:Oper} (v:Value) (hi:ops[i]? =some oi) (hc:(Region.noSelect ops&&Region.free md ops listed i&&(Region.ready md ops listed).contains i&&Region.wanted oi (yielded ops a.tmps))=true)
  (hQ:∀ c a w,Q (.panic c) (a.put oi.dst v) w→Q (.panic c) a w) (hy:∀ w,(execOp a.eval oi).run P w=.ok (.value v) w)
  (h:Cm P md ops Q L fuel (listed.setIfInBounds i true) (a.put oi.dst v) w):Cm P md ops Q (i::L) (fuel+1) listed a w:=by
 simp only[Bool.and_eq_true]at hc
 exact wpAny_take hi hc.1.1.1 hc.1.1.2 hc.1.2 hQ (Or.inl ⟨hc.2,hy⟩) h
end
open Go Go.RowKit Go.Maps Go.Proofs.Tryz
noncomputable def lI (f:Value→Option Value) (key:Value) (v:Option Value):Value→Option Value:=fun x=>open Classical in if x=key then v else f x
theorem dM (f:Value→Option Value) (key:Value) (v:Option Value):lI f key v key=v:=if_pos rfl
theorem eU (f:Value→Option Value) {key x:Value} (v:Option Value) (h:x≠key):lI f key v x=f x:=if_neg h
structure OQ (P:Program) (k:TypeId) (l:List MapEntry) (clock:Nat) (f:Value→Option Value):Prop where
 keys:∀ e∈l,∃ x,keyOf P k e.key=some x
 apart:l.Pairwise (fun x y=>x.key≠y.key)
 born:l.Pairwise (fun x y=>x.born≠y.born)
 lt:∀ e∈l,e.born<clock
 to:∀ e∈l,f e.key=some e.val
 of:∀ x v,f x=some v→∃ e∈l,e.key=x∧e.val=v
theorem uI {α:Type} {R:α→α→Prop} (hs:∀ x y,R x y→R y x) {l:List α} (h:l.Pairwise R) {i j:Nat} {x y:α} (hi:l[i]? =some x) (hj:l[j]? =some y) (hne:i≠j):R x y:=by
 obtain⟨hi',rfl⟩:=List.getElem?_eq_some_iff.1 hi;obtain⟨hj',rfl⟩:=List.getElem?_eq_some_iff.1 hj
 rcases Nat.lt_or_ge i j with h1|h1
 ·exact List.pairwise_iff_getElem.1 h i j hi' hj' h1
 ·exact hs _ _ (List.pairwise_iff_getElem.1 h j i hj' hi' (by omega))
theorem uu {α:Type} {R:α→α→Prop} {l:List α} (h:l.Pairwise R) (j:Nat) {x y:α} (hj:l[j]? =some x) (h1:∀ z,R x z→R y z) (h2:∀ z,R z x→R z y):(l.set j y).Pairwise R:=by
 obtain⟨hj',rfl⟩:=List.getElem?_eq_some_iff.1 hj;rw[List.pairwise_iff_getElem]at h ⊢
 intro a b ha hb hab
 simp only[List.length_set]at ha hb;rw[List.getElem_set,List.getElem_set]
 split
 ·rename_i e;subst e
  rw[if_neg (by omega)]
  exact h1 _ (h _ _ ha hb hab)
 ·split
  ·rename_i e;subst e
   exact h2 _ (h _ _ ha hb hab)
  ·exact h _ _ ha hb hab
section
variable {P:Program} {k:TypeId} {l:List MapEntry} {clock:Nat} {f:Value→Option Value}
theorem OQ.push (h:OQ P k l clock f) {key:Value} (val:Value) {kl:Lit} (hk:keyOf P k key=some kl) (hn:∀ e∈l,e.key≠key):OQ P k (l++[⟨key,val,clock⟩]) (clock+1) (lI f key (some val)) where
 keys e he:=by
  rcases List.mem_append.1 he with he|he
  ·exact h.keys e he
  ·simp at he;subst he;exact⟨kl,hk⟩
 apart:=List.pairwise_append.2 ⟨h.apart,by simp,fun x hx y hy=>by simp at hy;subst hy;exact hn x hx⟩
 born:=List.pairwise_append.2 ⟨h.born,by simp,fun x hx y hy=>by simp at hy;subst hy;have:=h.lt x hx;simp;omega⟩
 lt e he:=by
  rcases List.mem_append.1 he with he|he
  ·have:=h.lt e he;omega
  ·simp at he;subst he;simp
 to e he:=by
  rcases List.mem_append.1 he with he|he
  ·rw[eU _ _ (hn e he)];exact h.to e he
  ·simp at he;subst he;exact dM _ _ _
 of x v hx:=by
  by_cases e:x=key
  ·subst e
   rw[dM]at hx
   exact⟨_,List.mem_append.2 (.inr (List.mem_singleton.2 rfl)),rfl,by simpa using hx⟩
  ·rw[eU _ _ e]at hx
   obtain⟨y,hy,r⟩:=h.of x v hx
   exact⟨y,List.mem_append.2 (.inl hy),r⟩
theorem OQ.at (h:OQ P k l clock f) {j:Nat} {e:MapEntry} (hj:l[j]? =some e) {i:Nat} {e':MapEntry} (hi:l[i]? =some e') (hne:i≠j):e'.key≠e.key:=uI (fun _ _ h e=>h e.symm) h.apart hi hj hne
theorem OQ.set (h:OQ P k l clock f) {j:Nat} {e:MapEntry} (hj:l[j]? =some e) (val:Value):OQ P k (l.set j ⟨e.key,val,e.born⟩) clock (lI f e.key (some val)):=by
 have hlt:=(List.getElem?_eq_some_iff.1 hj).1;refine⟨fun x hx=>?_,uu h.apart j hj (fun _ h=>h) (fun _ h=>h),uu h.born j hj (fun _ h=>h) (fun _ h=>h),fun x hx=>?_,fun x hx=>?_,fun x v hx=>?_⟩
 ·rcases List.mem_or_eq_of_mem_set hx with hx|rfl
  ·exact h.keys x hx
  ·exact h.keys e (List.mem_of_getElem? hj)
 ·rcases List.mem_or_eq_of_mem_set hx with hx|rfl
  ·exact h.lt x hx
  ·exact h.lt e (List.mem_of_getElem? hj)
 ·obtain⟨i,hi⟩:=List.mem_iff_getElem?.1 hx
  rw[List.getElem?_set]at hi
  split at hi
  ·rename_i e1;subst e1
   cases hi
   exact dM _ _ _
  ·rename_i e1
   rw[eU _ _ (h.at hj hi (Ne.symm e1))]
   exact h.to x (List.mem_of_getElem? hi)
 ·by_cases e1:x=e.key
  ·subst e1
   rw[dM]at hx
   exact⟨⟨e.key,val,e.born⟩,List.mem_of_getElem? (i:=j) (by rw[List.getElem?_set,if_pos rfl,if_pos hlt]),rfl,by simpa using hx⟩
  ·rw[eU _ _ e1]at hx
   obtain⟨y,hy,hyk,hyv⟩:=h.of x v hx;obtain⟨i,hi⟩:=List.mem_iff_getElem?.1 hy;have hne:j≠i:=fun e2=>by subst e2;rw[hj]at hi;cases hi;exact e1 hyk.symm
   exact⟨y,List.mem_of_getElem? (i:=i) (by rw[List.getElem?_set,if_neg hne];exact hi),hyk,hyv⟩
theorem OQ.cut (h:OQ P k l clock f) {j:Nat} {e:MapEntry} (hj:l[j]? =some e):OQ P k (l.eraseIdx j) clock (lI f e.key none):=by
 have hsub:=List.eraseIdx_sublist l j;have hne:∀ x∈l.eraseIdx j,x.key≠e.key:=fun x hx=>by
  obtain⟨i,hi⟩:=List.mem_iff_getElem?.1 hx;rw[List.getElem?_eraseIdx]at hi
  split at hi
  ·exact h.at hj hi (by omega)
  ·exact h.at hj hi (by omega)
 refine⟨fun x hx=>h.keys x (hsub.subset hx),h.apart.sublist hsub,h.born.sublist hsub,fun x hx=>h.lt x (hsub.subset hx),fun x hx=>?_,fun x v hx=>?_⟩
 ·rw[eU _ _ (hne x hx)]
  exact h.to x (hsub.subset hx)
 ·by_cases e1:x=e.key
  ·subst e1;rw[dM]at hx;cases hx
  ·rw[eU _ _ e1]at hx
   obtain⟨y,hy,hyk,hyv⟩:=h.of x v hx;obtain⟨i,hi⟩:=List.mem_iff_getElem?.1 hy;have hij:i≠j:=fun e2=>by subst e2;rw[hj]at hi;cases hi;exact e1 hyk.symm
   refine⟨y,?_,hyk,hyv⟩
   rcases Nat.lt_or_ge i j with h1|h1
   ·exact List.mem_of_getElem? (i:=i) (by rw[List.getElem?_eraseIdx,if_pos h1];exact hi)
   ·exact List.mem_of_getElem? (i:=i - 1) (by rw[List.getElem?_eraseIdx,if_neg (by omega),show i - 1+1=i by omega];exact hi)
end
def fM (P:Program) (k:TypeId) (w:World) (b:Nat) (f:Value→Option Value):Prop:=∃ es clock,w.heap[b]? =some (.map es clock)∧OQ P k es.toList clock f
def xH (w:World) (b:Nat) (key:Value) (born:Nat):Prop:=∃ es clock,w.heap[b]? =some (.map es clock)∧∃ e∈es.toList,e.key=key∧e.born=born
section
variable {P:Program} {k:TypeId} {w w':World} {b:Nat} {f:Value→Option Value}
theorem fM.is (h:fM P k w b f):∃ n,dD P k w b n f:=by
 obtain⟨es,clock,h1,h2⟩:=h
 exact⟨es.size,es,clock,h1,Nat.le_refl _,h2.keys,h2.apart,h2.to,h2.of⟩
theorem fM.lt (h:fM P k w b f):b<w.heap.size:=by
 obtain⟨n,h⟩:=h.is
 exact h.lt
theorem fM.made (P:Program) (k:TypeId) (w:World):fM P k (w.alloc (.map #[] 0)) w.heap.size (fun _=>none):=
 ⟨#[],0,heap_alloc_new w _,by simp,by simp,by simp,by simp,by simp,by simp⟩
theorem fM.kept (h:fM P k w b f) (hb:w'.heap[b]? =w.heap[b]?):fM P k w' b f:=by
 obtain⟨es,clock,h1,h2⟩:=h
 exact⟨es,clock,hb.trans h1,h2⟩
theorem fM.iZ {S:List Nat} (h:fM P k w b f) (c:dE S w w') (hn:b∉S):fM P k w' b f:=h.kept (c.block b h.lt hn)
theorem fM.lookup {t e:TypeId} {z:Value} (h:fM P k w b f) (K:Keyed P k) (ht:P.underlying t=some (.map k e)) (hz:(zeroValue e).run P w=.ok z w) {key:Value} {kl:Lit} (hkey:keyOf P k key=some kl):
  (Instr.lookup t (.map (some b)) key false).run P w=.ok ((f key).getD z) w:=by
 obtain⟨n,h⟩:=h.is
 exact h.lookup K ht hz hkey
theorem fM.look_ok {t e:TypeId} {z:Value} (h:fM P k w b f) (K:Keyed P k) (ht:P.underlying t=some (.map k e)) (hz:(zeroValue e).run P w=.ok z w) {key:Value} {kl:Lit} (hkey:keyOf P k key=some kl):
  (Instr.lookup t (.map (some b)) key true).run P w=.ok (.tuple #[(f key).getD z,.bool (f key).isSome]) w:=by
 obtain⟨es,clock,hb,H⟩:=h
 rcases K.find w hkey es.toList H.keys with⟨h1,h2⟩|⟨j,e0,h1,h2,h3'⟩
 ·have hn:f key=none:=by
   cases hf:f key with
   |none=>rfl
   |some v=>
    obtain⟨e,he,hk,_⟩:=H.of key v hf
    exact absurd hk (h2 e he)
  simp[Instr.lookup,run_underlying ht,MapKept.run_getObj_map hb,K.check w _ hkey,h1,hz,hn,Result.andThen]
 ·have hs:f key=some e0.val:=by rw[←h3'];exact H.to e0 (List.mem_of_getElem? h2)
  simp[Instr.lookup,run_underlying ht,MapKept.run_getObj_map hb,K.check w _ hkey,h1,hs,Result.andThen]
theorem jR {es:Array MapEntry} {clock:Nat} (hb:w.heap[b]? =some (.map es clock)) (o:Obj):dE [b] w (ChangeMaps.setBlock w b o):=
 ⟨rfl,rfl,rfl,by simp[ChangeMaps.setBlock],fun i _ hi=>ChangeMaps.heap_setBlock_other hb _ (fun e=>hi (by simp[e]))⟩
theorem fM.update {t e:TypeId} (h:fM P k w b f) (K:Keyed P k) (ht:P.underlying t=some (.map k e)) {key:Value} (val:Value) {kl:Lit} (hkey:keyOf P k key=some kl):
  ∃ w',(Instr.mapUpdate t (.map (some b)) key val).run P w=.ok () w'∧fM P k w' b (lI f key (some val))∧dE [b] w w':=by
 obtain⟨es,clock,hb,H⟩:=h
 rcases K.find w hkey es.toList H.keys with⟨h1,h2⟩|⟨j,e0,h1,h2,h3'⟩
 ·refine⟨ChangeMaps.setBlock w b (.map (es.push ⟨key,val,clock⟩) (clock+1)),?_,⟨_,_,ChangeMaps.heap_setBlock_same hb _,?_⟩,jR hb _⟩
  ·simp[Instr.mapUpdate,run_underlying ht,MapKept.run_getObj_map hb,K.check w false hkey,h1,MapKept.run_setObj_map _ hb,Result.andThen,ChangeMaps.setBlock]
  ·rw[Array.toList_push];exact H.push val hkey h2
 ·have hj:es[j]? =some e0:=by simpa using h2
  refine⟨ChangeMaps.setBlock w b (.map (es.modify j (fun e'=>{ e' with key:=key,val:=val })) clock),?_,⟨_,_,ChangeMaps.heap_setBlock_same hb _,?_⟩,jR hb _⟩
  ·simp[Instr.mapUpdate,run_underlying ht,MapKept.run_getObj_map hb,K.check w false hkey,h1,hj,h3',K.stays w hkey,MapKept.run_setObj_map _ hb,Result.andThen,ChangeMaps.setBlock]
  ·rw[Array.toList_modify,ChangeMaps.modify_eq_set _ _ _ _ h2, ←h3']
   exact H.set h2 val
theorem fM.drop {t e ty:TypeId} (h:fM P k w b f) (K:Keyed P k) (ht:P.underlying t=some (.map k e)) {key:Value} {kl:Lit} (hkey:keyOf P k key=some kl):
  ∃ w',(Builtin.delete_ #[t,k] ty #[.map (some b),key]).run P w=.ok (.tuple #[]) w'∧fM P k w' b (lI f key none)∧dE [b] w w':=by
 obtain⟨es,clock,hb,H⟩:=h
 rcases K.find w hkey es.toList H.keys with⟨h1,h2⟩|⟨j,e0,h1,h2,h3'⟩
 ·refine⟨ChangeMaps.setBlock w b (.map es clock),?_,⟨_,_,ChangeMaps.heap_setBlock_same hb _,?_⟩,jR hb _⟩
  ·simp[Builtin.delete_,run_underlying ht,MapKept.run_getObj_map hb,K.check w _ hkey,h1,MapKept.run_setObj_map _ hb,Result.andThen,ChangeMaps.setBlock]
  ·have hf:lI f key none=f:=funext fun x=>by
    by_cases e:x=key
    ·subst e
     rw[dM]
     cases hf:f x with
     |none=>rfl
     |some v=>
      obtain⟨y,hy,hk,_⟩:=H.of x v hf
      exact absurd hk (h2 y hy)
    ·exact eU _ _ e
   rw[hf];exact H
 ·refine⟨ChangeMaps.setBlock w b (.map (es.eraseIdxIfInBounds j) clock),?_,⟨_,_,ChangeMaps.heap_setBlock_same hb _,?_⟩,jR hb _⟩
  ·simp[Builtin.delete_,run_underlying ht,MapKept.run_getObj_map hb,K.check w _ hkey,h1,MapKept.run_setObj_map _ hb,Result.andThen,ChangeMaps.setBlock]
  ·have hl:(es.eraseIdxIfInBounds j).toList=es.toList.eraseIdx j:=by
    unfold Array.eraseIdxIfInBounds
    have:=(List.getElem?_eq_some_iff.1 h2).1
    rw[dif_pos (by simpa using this)]
    simp
   rw[hl, ←h3']
   exact H.cut h2
theorem ui {α:Type} (a:Array α) (i:Nat) (x:α) (h:a[i]? =some x):a.setIfInBounds i x=a:=by
 apply Array.ext_getElem?
 intro j
 rw[Array.getElem?_setIfInBounds]
 split
 ·rename_i e;subst e
  rw[h,if_pos (Array.getElem?_eq_some_iff.1 h).1]
 ·rfl
theorem DW {es:Array MapEntry} {j:Nat} {e0:MapEntry} (hj:es.toList[j]? =some e0):es.modify j (fun e'=>{ e' with key:=e0.key })=es:=by
 apply Array.toList_inj.1
 rw[Array.toList_modify,ChangeMaps.modify_eq_set _ _ _ _ hj]
 apply List.ext_getElem?
 intro i
 rw[List.getElem?_set]
 split
 ·rename_i e;subst e
  rw[hj,if_pos (List.getElem?_eq_some_iff.1 hj).1]
 ·rfl
theorem fM.entry {t e:TypeId} (h:fM P k w b f) (K:Keyed P k) (ht:P.underlying t=some (.map k e)) {key v:Value} {kl:Lit} (hkey:keyOf P k key=some kl) (hf:f key=some v):
  ∃ born:Nat,(Instr.mapEntry t (.map (some b)) key).run P w=.ok (.tuple #[v,J born]) w∧xH w b key born:=by
 obtain⟨es,clock,hb,H⟩:=h
 rcases K.find w hkey es.toList H.keys with⟨h1,h2⟩|⟨j,e0,h1,h2,h3'⟩
 ·obtain⟨y,hy,hk,_⟩:=H.of key v hf
  exact absurd hk (h2 y hy)
 ·have hj:es[j]? =some e0:=by simpa using h2
  have hv:e0.val=v:=by
   have:=H.to e0 (List.mem_of_getElem? h2)
   rw[h3',hf]at this
   exact(Option.some.inj this).symm
  refine⟨e0.born,?_,es,clock,hb,e0,List.mem_of_getElem? h2,h3',rfl⟩;subst h3';have hm:=DW h2;have hw:({ w with heap:=w.heap.setIfInBounds b (.map es clock) }:World)=w:=by rw[ui _ _ _ hb]
  simp[Instr.mapEntry,run_underlying ht,MapKept.run_getObj_map hb,K.check w false hkey,h1,hj,K.stays w hkey,MapKept.run_setObj_map _ hb,Result.andThen,hm,hw,hv,goInt]
theorem findIdx_born {l:List MapEntry} (hb:l.Pairwise (fun x y=>x.born≠y.born)) {j:Nat} {e:MapEntry} (hj:l[j]? =some e):l.findIdx? (fun x=>(x.born:Int)==(e.born:Int))=some j:=by
 have hlt:=(List.getElem?_eq_some_iff.1 hj).1;rw[List.findIdx?_eq_some_iff_getElem];refine⟨hlt,by rw[(List.getElem?_eq_some_iff.1 hj).2];simp,fun i hi=>?_⟩;have hi':l[i]? =some l[i]:=List.getElem?_eq_getElem (by omega)
 have:=uI (fun _ _ h e=>h e.symm) hb hi' hj (by omega)
 simp
 omega
theorem fM.stamp {t:TypeId} (h:fM P k w b f) {key:Value} {born:Nat} (hB:xH w b key born) (val:Value):
  ∃ w',(Instr.entryStore t (.map (some b)) (J born) val).run P w=.ok () w'∧fM P k w' b (lI f key (some val))∧dE [b] w w'∧∀ key' born',xH w b key' born'→xH w' b key' born':=by
 obtain⟨es,clock,hb,H⟩:=h;obtain⟨es',clock',hb',e0,he0,rfl,rfl⟩:=hB;rw[hb]at hb'
 cases hb'
 obtain⟨j,hj⟩:=List.mem_iff_getElem?.1 he0;have hfi:es.findIdx? (fun x=>(x.born:Int)==(e0.born:Int))=some j:=by
  have e:=findIdx_born H.born hj;have e2:es=es.toList.toArray:=by simp
  rw[e2,List.findIdx?_toArray]
  exact e
 refine⟨ChangeMaps.setBlock w b (.map (es.modify j fun e=>{ e with val:=val }) clock),?_,⟨_,_,ChangeMaps.heap_setBlock_same hb _,?_⟩,jR hb _,?_⟩
 ·simp[Instr.entryStore,MapKept.run_getObj_map hb,asInt,asIntOf,hfi,MapKept.run_setObj_map _ hb,Result.andThen,ChangeMaps.setBlock]
 ·rw[Array.toList_modify,ChangeMaps.modify_eq_set _ _ _ _ hj]
  exact H.set hj val
 ·rintro key' born' ⟨es',clock',hb',x,hx,h1,h2⟩
  rw[hb]at hb'
  cases hb'
  obtain⟨i,hi⟩:=List.mem_iff_getElem?.1 hx;refine⟨_,_,ChangeMaps.heap_setBlock_same hb _,?_⟩;rw[Array.toList_modify,ChangeMaps.modify_eq_set _ _ _ _ hj]
  by_cases e:i=j
  ·subst e
   rw[hj]at hi
   cases hi
   exact⟨⟨e0.key,val,e0.born⟩,List.mem_of_getElem? (i:=i) (by rw[List.getElem?_set,if_pos rfl,if_pos (List.getElem?_eq_some_iff.1 hj).1]),h1,h2⟩
  ·exact⟨x,List.mem_of_getElem? (i:=i) (by rw[List.getElem?_set,if_neg (Ne.symm e)];exact hi),h1,h2⟩
end
theorem Om (x y:Nat) (w:World):(callFunc 300 #[Ju x,Ju y,Ju 0]).run prog w=.ok (.value (.tuple #[Ju (((x+y) % 18446744073709551616:Nat):Int),Ju (((x+y) / 18446744073709551616:Nat):Int)])) w:=by
 rw[run_callFunc_extern func300 (by kernel_rfl) (by kernel_rfl) (by kernel_rfl) (e:=add64Entry) (by kernel_rfl),run_add64 x y 0 (by omega) (by omega) (by omega) (by omega)];simp only[Result.andThen]
 congr 5<;>omega
theorem maskN (a:Nat) (ha:a<18446744073709551616):bits .and .u64 (a:Int) 4294967295=((a % 4294967296:Nat):Int):=by
 have h:=bits_and_u64_nat a 4294967295 ha (by omega);have e:a &&& 4294967295=a % 4294967296:=Nat.and_two_pow_sub_one_eq_mod a 32;rw[e]at h
 exact h
theorem divN (a:Nat):(a:Int) / 4294967296=((a / 4294967296:Nat):Int):=by omega
theorem mulN (a b:Nat):(a:Int)*(b:Int)=((a*b:Nat):Int):=(Int.natCast_mul a b).symm
theorem addN (a b:Nat):(a:Int)+(b:Int)=((a+b:Nat):Int):=(Int.natCast_add a b).symm
theorem wrapN (a:Nat) (ha:a<18446744073709551616):IntKind.u64.wrap (a:Int)=(a:Int):=by rw[IntKind.wrap_u64];omega
theorem wrapM (a:Nat):IntKind.u64.wrap (a:Int)=((a % 18446744073709551616:Nat):Int):=by rw[IntKind.wrap_u64];omega
set_option maxHeartbeats 1000000 in
theorem xI (x y:Nat) (hx:x<18446744073709551616) (hy:y<18446744073709551616):
  Same 302 #[Ju x,Ju y] (.tuple #[Ju ((x*y / 18446744073709551616:Nat):Int),Ju ((x*y % 18446744073709551616:Nat):Int)]):=fun w=>by
 obtain⟨bd,bt,bw,hhi⟩:=Lib.mul64_hi x y hx hy;have ba:=Lib.half_mul_le (a:=x / 4294967296) (b:=y / 4294967296) (by omega) (by omega);have bb:=Lib.half_mul_le (a:=x / 4294967296) (b:=y % 4294967296) (by omega) (by omega);have bc:=Lib.half_mul_le (a:=x % 4294967296) (b:=y / 4294967296) (by omega) (by omega);have ba':x / 4294967296*(y / 4294967296)<18446744073709551616:=by omega
 have bb':x / 4294967296*(y % 4294967296)<18446744073709551616:=by omega
 have bc':x % 4294967296*(y / 4294967296)<18446744073709551616:=by omega
 have bh1:x / 4294967296*(y / 4294967296)+(x / 4294967296*(y % 4294967296)+x % 4294967296*(y % 4294967296) / 4294967296) / 4294967296<18446744073709551616:=by omega
 have bh:x / 4294967296*(y / 4294967296)+(x / 4294967296*(y % 4294967296)+x % 4294967296*(y % 4294967296) / 4294967296) / 4294967296+((x / 4294967296*(y % 4294967296)+x % 4294967296*(y % 4294967296) / 4294967296) % 4294967296+x % 4294967296*(y / 4294967296)) / 4294967296<18446744073709551616:=by omega
 go_enter func302,ntmps302
 go_wp2
 simp only[maskN x hx,maskN y hy,divN,mulN,addN,wrapN _ bd,wrapN _ bb',wrapN _ bt,maskN _ bt,wrapN _ bc',wrapN _ bw,wrapN _ ba',wrapN _ bh1,wrapN _ bh,wrapM (x*y)];rw[hhi]
 go_ret2
 exact⟨rfl,rfl⟩
def TabAt (g:Nat) (tab:List Nat) (w:World):Prop:=∀ j,j<tab.length→w.cell? ⟨g,j,none⟩=some (.int .u8 (tab.getD j 0))
set_option maxHeartbeats 1000000 in
theorem tz64_core (x k idx:Nat) (w:World) (hx0:((x:Int)==0)=false)
  (key:IntKind.u64.wrap (bits BinOp.and IntKind.u64 (x:Int) (IntKind.u64.wrap (-(x:Int)))*285870213051353865) / 288230376151711744=(idx:Int))
  (hi:idx<64) (hk:k<64) (hcell:At w 0 idx (.int .u8 k)):
  Calls prog 180 #[Ju x] w fun e w'=>e=.returned (J k)∧w=w':=by
 go_enter func180,ntmps180
 go_wp2_with (simp only[key])
 go_ret
 exact⟨rfl,rfl⟩
theorem tz64_key (x a:Nat) (hx:x<18446744073709551616) (hx0:x≠0) (hlow:x &&& (18446744073709551616 - x)=a):
  IntKind.u64.wrap (bits BinOp.and IntKind.u64 (x:Int) (IntKind.u64.wrap (-(x:Int)))*285870213051353865) / 288230376151711744=((a*285870213051353865 % 18446744073709551616 / 288230376151711744:Nat):Int):=by
 have e1:IntKind.u64.wrap (-(x:Int))=((18446744073709551616 - x:Nat):Int):=by rw[IntKind.wrap_u64];omega
 rw[e1,bits_and_u64_nat x _ hx (by omega),hlow,IntKind.wrap_u64]
 omega
theorem QN (x:Nat) (hx:x<18446744073709551616) (hx0:x≠0) (w:World) (hT:TabAt 0 Lib.deBruijn64tab w):
  Calls prog 180 #[Ju x] w fun e w'=>e=.returned (J (Lib.ctz 64 x))∧w=w':=by
 obtain⟨hlow,hk⟩:=Lib.lowest_bit 64 x hx0 hx;obtain⟨hi,htab⟩:=Lib.deBruijn64_at _ hk;have hcell:=hT _ hi;rw[htab]at hcell
 exact tz64_core x _ _ w (by simp;omega) (tz64_key x _ hx hx0 hlow) hi hk hcell
theorem tq {i:Nat} (h:i<64):2 ^ i<18446744073709551616:=by
 have:(18446744073709551616:Nat)=2 ^ 64:=by decide
 rw[this]
 exact Nat.pow_lt_pow_right (by omega) h
theorem Rf {i:Nat} (h:i<64):IntKind.u64.wrap ((2:Int) ^ i)=((2 ^ i:Nat):Int):=by
 have e:((2:Int) ^ i)=((2 ^ i:Nat):Int):=by simp
 rw[e,wrapN _ (tq h)]
theorem zu (i:Nat) (h:i<64):Same 179 #[J i] (Ju ((2 ^ i:Nat):Int)):=fun w=>by
 have e:=zd (Rf h);have d0:decide ((i:Int)<0)=false:=by simp
 have d1:decide (64≤(i:Int))=false:=by simp;omega
 go_enter func179,ntmps179
 go_wp2
 go_ret
 exact⟨jg e.out,rfl⟩
theorem J5 (b i:Nat) (hb:b<18446744073709551616) (h:i<64):Same 148 #[Ju b,J i] (Ju ((b ||| 2 ^ i:Nat):Int)):=fun w=>by
 have e:=zd (u64_or_nat b (2 ^ i) hb (tq h))
 go_enter func148,ntmps148
 go_wp2_with fail
 refine(zu i h _).mono ?_
 rintro e w1 ⟨rfl,rfl⟩
 generalize hq:((2 ^ i:Nat):Int)=q at *;clear hq
 go_wp2
 go_ret
 exact⟨jg e.out,rfl⟩
theorem zD (b i:Nat) (hb:b<18446744073709551616) (h:i<64):Same 182 #[Ju b,J i] (Ju ((b &&& (18446744073709551615 - 2 ^ i):Nat):Int)):=fun w=>by
 have e:=zd (u64_andNot_nat b (2 ^ i) hb (tq h))
 go_enter func182,ntmps182
 go_wp2_with fail
 refine(zu i h _).mono ?_
 rintro e w1 ⟨rfl,rfl⟩
 generalize hq:((2 ^ i:Nat):Int)=q at *;clear hq
 go_wp2
 go_ret
 exact⟨jg e.out,rfl⟩
theorem QS:Same 149 #[Ju 0,J 0] (J (-1)):=fun w=>by
 go_enter func149,ntmps149
 go_wp2
 go_ret
 exact⟨rfl,rfl⟩
theorem Qv (b:Nat) (hb:b<18446744073709551616):Go.bits .and .u64 (b:Int) 18446744073709551615=(b:Int):=by
 have h:=u64_and_nat b 18446744073709551615 hb (by omega);have e:b &&& 18446744073709551615=b:=by
  have:=Nat.and_two_pow_sub_one_eq_mod b 64
  rw[show(2 ^ 64 - 1:Nat)=18446744073709551615 from rfl]at this;rw[this,Nat.mod_eq_of_lt (by omega)]
 rw[e]at h
 exact h
theorem Nq (b:Nat) (hb:b<18446744073709551616) (h0:b≠0) (w:World) (hT:TabAt 0 Lib.deBruijn64tab w):
  Calls prog 149 #[Ju b,J 0] w fun e w'=>e=.returned (J (Lib.ctz 64 b))∧w=w':=by
 have e:=Qv b hb;have e0:((b:Int)==0)=false:=beq_eq_false_iff_ne.2 (by omega);have HT:=zd hT;have H0:=zd h0;clear hT h0
 go_enter func149,ntmps149
 go_wp2_with (simp only[e])
 refine(QN b hb H0.out _ HT.out).mono ?_
 rintro e w1 ⟨rfl,rfl⟩
 go_wp2
 go_ret
 exact⟨rfl,rfl⟩
def It.cells (x:It):List Value:=[Ju x.key,J x.id]
@[reducible] def It.val (x:It):Value:=.agg #[Ju x.key,J x.id]
theorem l9 (a b:It):Pure prog 66 #[a.val,b.val] (.bool (ahead a b)):=fun w=>by
 obtain⟨ak,ai⟩:=a;obtain⟨bk,bi⟩:=b;unfold It.val
 go_enter func66,ntmps66
 go_wp2
 all_goals (go_ret;refine⟨DC ?_,((dE.refl _ _).alloc _).alloc _⟩;rw[Bool.eq_iff_iff];simp[ahead, *])
 all_goals omega
theorem KU (a b:Nat):Dc a b<18446744073709551616:=by unfold Dc;split<;>omega
theorem OL (a b:Nat):Same 297 #[Ju a,Ju b] (Ju (Dc a b:Nat)):=fun w=>by
 have e:=Om a b
 by_cases h:a+b<18446744073709551616
 ·have q:(((a:Int)+b) / 18446744073709551616 != 0)=false:=bne_eq_false_iff_eq.2 (by omega)
  have E:(((a:Int)+b) % 18446744073709551616)=((Dc a b:Nat):Int):=by unfold Dc;rw[if_pos h];omega
  have E':=zd E;clear E h
  go_enter func297,ntmps297
  go_wp2
  go_ret
  exact⟨jg E'.out,rfl⟩
 ·have q:(((a:Int)+b) / 18446744073709551616 != 0)=true:=bne_iff_ne.2 (by omega)
  have E:(18446744073709551615:Int)=((Dc a b:Nat):Int):=by unfold Dc;rw[if_neg h];rfl
  have E':=zd E;clear E h
  go_enter func297,ntmps297
  go_wp2
  go_ret
  exact⟨jg E'.out,rfl⟩
theorem AX (a b:Nat) (ha:a<18446744073709551616) (hb:b<18446744073709551616):Same 301 #[Ju a,Ju b] (Ju (F9 a b:Nat)):=fun w=>by
 generalize hp:a*b=p
 by_cases h:p<18446744073709551616
 ·have q:((p:Int) / 18446744073709551616 != 0)=false:=bne_eq_false_iff_eq.2 (by omega)
  have E:(((p % 18446744073709551616:Nat)):Int)=((F9 a b:Nat):Int):=by unfold F9;rw[hp,if_pos h];omega
  have E':=zd E;have Hp:=zd hp;clear E h hp
  go_enter func301,ntmps301
  go_wp2_with fail
  refine(xI a b ha hb _).mono ?_
  rintro e w1 ⟨he,rfl⟩
  rw[Hp.out]at he;subst he
  go_wp2
  go_ret
  exact⟨jg E'.out,rfl⟩
 ·have q:((p:Int) / 18446744073709551616 != 0)=true:=bne_iff_ne.2 (by omega)
  have E:(18446744073709551615:Int)=((F9 a b:Nat):Int):=by unfold F9;rw[hp,if_neg h];rfl
  have E':=zd E;have Hp:=zd hp;clear E h hp
  go_enter func301,ntmps301
  go_wp2_with fail
  refine(xI a b ha hb _).mono ?_
  rintro e w1 ⟨he,rfl⟩
  rw[Hp.out]at he;subst he
  go_wp2
  go_ret
  exact⟨jg E'.out,rfl⟩
theorem Ij (size:Int) (r:Nat) (hr:r<18446744073709551616) (h0:I64 size):Same 298 #[J size,Ju r] (Ju (wV size r:Nat)):=fun w=>by
 obtain⟨l0,l1⟩:=h0
 by_cases h:0≤size
 ·obtain⟨n,rfl⟩:=Int.eq_ofNat_of_zero_le h
  have d:decide ((n:Int)<0)=false:=by simp
  have E:wV (n:Int) r=F9 n r:=by unfold wV;congr 1;omega
  have E':=zd E;clear E
  go_enter func298,ntmps298
  go_wp2_with fail
  refine(AX n r (by omega) hr _).mono ?_
  rintro e w1 ⟨rfl,rfl⟩
  go_wp2
  go_ret
  exact⟨jg (by rw[E'.out]),rfl⟩
 ·have E:wV size r=F9 0 r:=by unfold wV;congr 1;omega
  have E':=zd E;have d:size<0:=by omega
  clear E
  go_enter func298,ntmps298
  go_wp2_with fail
  refine(AX 0 r (by omega) hr _).mono ?_
  rintro e w1 ⟨rfl,rfl⟩
  go_wp2
  go_ret
  exact⟨jg (by rw[E'.out]),rfl⟩
def Bg (unit:Nat) (weight:Int):Nat:=if unit<1∨4611686018427387904<unit∨weight<1∨65536<weight then 0 else max (unit / weight.toNat) 1
theorem SK (unit:Nat) (weight:Int) (h:unit≤4611686018427387904):Bg unit weight<18446744073709551616:=by
 unfold Bg
 have:=Nat.div_le_self unit weight.toNat
 split<;>omega
theorem N8 (unit:Nat) (weight:Int) (hu:1≤unit) (hu2:unit≤4611686018427387904) (h0:1≤weight) (h1:weight≤65536):Same 198 #[Ju unit,J weight] (.tuple #[Ju (Bg unit weight:Nat),.bool true]):=fun w=>by
 obtain⟨n,rfl⟩:=Int.eq_ofNat_of_zero_le (show 0≤weight by omega);have E:Bg unit n=max (unit / n) 1:=by unfold Bg;rw[if_neg (by omega)];simp
 have q0:=Nat.div_le_self unit n;have qe:(unit:Int) / (n:Int)=((unit / n:Nat):Int):=rfl;have e3:IntKind.u64.wrap ((unit:Int) / (n:Int))=(unit:Int) / (n:Int):=by rw[qe];exact wrapN _ (by omega)
 have e2:IntKind.u64.wrap (n:Int)=(n:Int):=wrapN n (by omega)
 by_cases c:unit / n<1
 ·have d:(unit:Int) / (n:Int)<1:=by rw[qe];omega
  have E':=zd (show((1:Int))=(Bg unit n:Nat) by rw[E];omega);clear E q0 qe c
  go_enter func198,ntmps198
  go_wp2
  go_ret2
  exact⟨by simp[←E'.out],rfl⟩
 ·have d:¬ (unit:Int) / (n:Int)<1:=by rw[qe];omega
  have E':=zd (show((unit:Int) / (n:Int))=(Bg unit n:Nat) by rw[E,qe];omega);clear E q0 qe c
  go_enter func198,ntmps198
  go_wp2
  go_ret2
  exact⟨by simp[←E'.out],rfl⟩
theorem Eh {w:World} {base:Nat} {e:TypeId} {size:Nat} {v:Value} {n:Nat} {xs:List Value} (h:w.ownsRow base e size v n xs) (hn:0<n):
  ∃ g cap rest,v=.slice (some ⟨g,0,none⟩) n cap∧Row w g (xs++rest) e∧n≤cap∧cap≤maxLen∧(xs++rest).length=cap*size∧xs.length=n*size:=by
 obtain⟨h0,h1⟩:=h
 rcases h1 with⟨_,h1⟩|⟨g,cap,cur,hv,_,hg,hc,hm,hs,ht⟩
 ·omega
 ·refine⟨g,cap,cur.toList.drop (n*size),hv,?_,hc,hm,?_,h0⟩
  ·unfold Row
   rw[←ht,List.take_append_drop]
   simpa using hg
  ·rw[←ht,List.take_append_drop]
   simpa using hs
theorem DK {w:World} {e:TypeId} {size g n cap:Nat} {xs rest:List Value} (r:Row w g (xs++rest) e) (hc:n≤cap) (hm:cap≤maxLen) (hl:(xs++rest).length=cap*size) (hx:xs.length=n*size):
  w.ownsRow 0 e size (.slice (some ⟨g,0,none⟩) n cap) n xs:=
 ⟨hx,.inr ⟨g,cap,(xs++rest).toArray,rfl,Nat.zero_le _,r,hc,hm,by simpa using hl,by simp[←hx]⟩⟩
theorem Scope.qj {S:List Nat} {w0 w:World} {v:Value} {t:TypeId} {size n:Nat} {xs:List Value} {Bs:List HA} (h:Scope S w0 w (aU v t size n xs::Bs)) (hn:0<n):
  ∃ g cap rest,v=.slice (some ⟨g,0,none⟩) n cap∧Scope S w0 w (Go.Proofs.YtjnbbmgbmiggbaaGreatDoor.box g (xs++rest) t::Bs)∧n≤cap∧cap≤maxLen∧(xs++rest).length=cap*size∧xs.length=n*size:=by
 obtain⟨c,fp,⟨f,gg,⟨h1,rfl⟩,h2,h3,h4⟩,h5⟩:=h;obtain⟨g,cap,rest,rfl,hr,k1,k2,k3,k4⟩:=Eh h1 hn
 exact⟨g,cap,rest,rfl,⟨c,fp,⟨[g],gg,⟨hr,rfl⟩,h2,h3,h4⟩,h5⟩,k1,k2,k3,k4⟩
theorem Scope.own {S:List Nat} {w0 w:World} {t:TypeId} {size n g cap:Nat} {xs rest:List Value} {Bs:List HA} (h:Scope S w0 w (Go.Proofs.YtjnbbmgbmiggbaaGreatDoor.box g (xs++rest) t::Bs)) (hc:n≤cap) (hm:cap≤maxLen) (hl:(xs++rest).length=cap*size) (hx:xs.length=n*size):
  Scope S w0 w (aU (.slice (some ⟨g,0,none⟩) n cap) t size n xs::Bs):=by
 obtain⟨c,fp,⟨f,gg,⟨h1,rfl⟩,h2,h3,h4⟩,h5⟩:=h
 exact⟨c,fp,⟨[g],gg,⟨DK h1 hc hm hl hx,rfl⟩,h2,h3,h4⟩,h5⟩
theorem Scope.ny {S:List Nat} {w0 w:World} {v:Value} {t:TypeId} {size n:Nat} {xs:List Value} {Bs:List HA} (h:Scope S w0 w (aU v t size n xs::Bs)):
  (v=nS∧n=0)∨∃ g cap,v=.slice (some ⟨g,0,none⟩) n cap∧g<w.heap.size∧n≤cap∧cap≤maxLen:=by
 obtain⟨c,fp,⟨f,gg,⟨h1,rfl⟩,_⟩,_⟩:=h
 exact ownsRow_form h1
theorem Scope.jh {S:List Nat} {w0 w:World} {v:Value} {t:TypeId} {size n:Nat} {xs:List Value} {Bs:List HA} (h:Scope S w0 w (aU v t size n xs::Bs)):∃ oa cap,v=.slice oa n cap∧n≤cap∧cap≤maxLen:=by
 rcases h.ny with⟨rfl,rfl⟩|⟨g,cap,rfl,_,h1,h2⟩
 ·exact⟨none,0,rfl,by omega,by unfold maxLen;omega⟩
 ·exact⟨_,_,rfl,h1,h2⟩
theorem Scope.as {S:List Nat} {w0 w:World} {A B:HA} {Bs:List HA} (h:Scope S w0 w (A::Bs)) (hm:∀ f,A.holds w f→B.holds w f):Scope S w0 w (B::Bs):=by
 obtain⟨c,fp,⟨f,gg,h1,h2,h3,h4⟩,h5⟩:=h
 exact⟨c,fp,⟨f,gg,hm _ h1,h2,h3,h4⟩,h5⟩
theorem Scope.head {S:List Nat} {w0 w:World} {A:HA} {Bs:List HA} (h:Scope S w0 w (A::Bs)):∃ f,A.holds w f:=by
 obtain⟨c,fp,⟨f,gg,h1,h2,h3,h4⟩,h5⟩:=h
 exact⟨f,h1⟩
theorem Scope.turned {S:List Nat} {w0 w:World} {A:HA} {Bs:List HA} (h:Scope S w0 w (A::Bs)):∃ f,A.holds w f∧∀ (B:HA) w' f',B.holds w' f'→dE f w w'→Own f f' w→Scope S w0 w' (B::Bs):=by
 have h':Scope S w0 w ([A]++Bs):=h;obtain⟨f,hf,hd⟩:=h'.does
 exact⟨f,bZ hf,fun B w' f' h1 h2 h3=>hd [B] w' (After.intro1 ⟨f',h1,h2,h3⟩)⟩
theorem Scope.perm {S:List Nat} {w0 w:World} {As Bs:List HA} (h:Scope S w0 w As) (p:As.Perm Bs):Scope S w0 w Bs:=by
 induction p with
 |nil=>exact h
 | @cons A l₁ l₂ p ih=>
  obtain⟨c,fp,⟨f,g,h1,h2,h3,rfl⟩,h5⟩:=h;have key:∀ {l₁ l₂:List HA} (p:l₁.Perm l₂) {fp:List Nat},(aG l₁).holds w fp→∃ fp',(aG l₂).holds w fp'∧∀ k,k∈fp'↔k∈fp:=by
   intro l₁ l₂ p
   induction p with
   |nil=>intro fp h;exact⟨fp,h,fun _=>Iff.rfl⟩
   |cons A p ih=>
    rintro fp ⟨f,g,h1,h2,h3,rfl⟩
    obtain⟨g',k1,k2⟩:=ih h2
    exact⟨f++g',⟨f,g',h1,k1,fun k hk hm=>h3 k hk ((k2 k).1 hm),rfl⟩,fun k=>by simp[k2]⟩
   |swap A B l=>
    rintro fp ⟨f,g,h1,⟨f2,g2,j1,j2,j3,rfl⟩,h3,rfl⟩
    refine⟨f2++(f++g2),⟨f2,f++g2,j1,⟨f,g2,h1,j2,fun k hk hm=>h3 k hk (by simp[hm]),rfl⟩,fun k hk hm=>?_,rfl⟩,fun k=>by simp;constructor<;>(intro h;rcases h with h|h|h<;>simp[h])⟩
    rcases List.mem_append.1 hm with h|h
    ·exact h3 k h (by simp[hk])
    ·exact j3 k hk h
   |trans p q ih1 ih2=>
    intro fp h
    obtain⟨f1,a1,a2⟩:=ih1 h;obtain⟨f2,b1,b2⟩:=ih2 a1
    exact⟨f2,b1,fun k=>(b2 k).trans (a2 k)⟩
  obtain⟨g',k1,k2⟩:=key p h2
  exact⟨c,f++g',⟨f,g',h1,k1,fun k hk hm=>h3 k hk ((k2 k).1 hm),rfl⟩,fun k hk=>h5 k (by simpa [k2]using hk)⟩
 |swap A B l=>exact Scope.swap2 h
 |trans p q ih1 ih2=>exact ih2 (ih1 h)
theorem jF {α:Type}:∀ (i:Nat) (l:List α) (x:α),l[i]? =some x→l.Perm (x::l.eraseIdx i)
 |_,[],_,h=>by simp at h
 |0,y::l,x,h=>by simp at h;subst h;exact List.Perm.refl _
 |i+1,y::l,x,h=>by
  have:=jF i l x (by simpa using h)
  exact(List.Perm.cons y this).trans (List.Perm.swap x y _)
theorem Scope.front {S:List Nat} {w0 w:World} {As:List HA} {A:HA} (h:Scope S w0 w As) (i:Nat) (hi:As[i]? =some A):Scope S w0 w (A::As.eraseIdx i):=h.perm (jF i As A hi)
theorem vI {α:Type} (i:Nat) (l:List α) (x:α) (hi:i≤l.length):(x::l).Perm (l.insertIdx i x):=by
 induction l generalizing i with
 |nil=>cases i with
  |zero=>exact List.Perm.refl _
  |succ i=>simp at hi
 |cons y l ih=>cases i with
  |zero=>exact List.Perm.refl _
  |succ i=>exact(List.Perm.swap y x l).trans (List.Perm.cons y (ih i (by simpa using hi)))
theorem Scope.back {S:List Nat} {w0 w:World} {As:List HA} {A:HA} (h:Scope S w0 w (A::As)) (i:Nat) (hi:i≤As.length):Scope S w0 w (As.insertIdx i A):=h.perm (vI i As A hi)
def its (l:List It):List Value:=l.flatMap It.cells
theorem jf (l:List It):(its l).length=l.length*2:=by
 unfold its
 induction l with
 |nil=>rfl
 |cons e l ih=>simp[It.cells,ih];omega
theorem ni (x:It) (l:List It):its (x::l)=[Ju x.key,J x.id]++its l:=by simp[its,It.cells]
theorem x8 (l l':List It):its (l++l')=its l++its l':=by simp[its]
theorem vg:∀ (l:List It) (k:Nat) (x:It),l[k]? =some x→(its l)[k*2]? =some (Ju x.key)∧(its l)[k*2+1]? =some (J x.id):=by
 intro l
 induction l with
 |nil=>intro k x h;simp at h
 |cons y l ih=>
  intro k x h
  rw[ni]
  cases k with
  |zero=>simp at h;subst h;exact⟨rfl,rfl⟩
  |succ k=>
   obtain⟨h0,h1⟩:=ih k x (by simpa using h);rw[List.getElem?_append_right (by simp;omega),List.getElem?_append_right (by simp;omega)];simp only[List.length_cons,List.length_nil];rw[show(k+1)*2 - (0+1+1)=k*2 by omega,show(k+1)*2+1 - (0+1+1)=k*2+1 by omega]
   exact⟨h0,h1⟩
theorem gX {l:List It} {k:Nat} {x:It} (h:l[k]? =some x) (rest:List Value):(its l++rest)[k*2]? =some (Ju x.key)∧(its l++rest)[k*2+1]? =some (J x.id):=by
 have hk:=(List.getElem?_eq_some_iff.1 h).1;obtain⟨h0,h1⟩:=vg l k x h;have hl:=jf l;rw[List.getElem?_append_left (by omega),List.getElem?_append_left (by omega)]
 exact⟨h0,h1⟩
theorem Si:∀ (l:List It) (k:Nat) (x:It),k<l.length→((its l).set (k*2) (Ju x.key)).set (k*2+1) (J x.id)=its (l.set k x):=by
 intro l
 induction l with
 |nil=>intro k x h;simp at h
 |cons y l ih=>
  intro k x h
  cases k with
  |zero=>simp only[List.set_cons_zero];rw[ni,ni];rfl
  |succ k=>
   have:=ih k x (by simpa using h)
   simp only[List.set_cons_succ];rw[ni,ni, ←this,List.set_append_right _ _ (by simp;omega),List.set_append_right _ _ (by simp;omega)];simp only[List.length_cons,List.length_nil];rw[show(k+1)*2 - (0+1+1)=k*2 by omega,show(k+1)*2+1 - (0+1+1)=k*2+1 by omega]
theorem pV (l:List It) (k:Nat) (x:It) (h:k<l.length) (rest:List Value):((its l++rest).set (k*2) (Ju x.key)).set (k*2+1) (J x.id)=its (l.set k x)++rest:=by
 have hl:=jf l;rw[List.set_append_left _ _ (by omega),List.set_append_left _ _ (by simp;omega),Si l k x h]
theorem EM (l:List It) (k:Nat):its (l.take k)=(its l).take (k*2):=by
 induction l generalizing k with
 |nil=>simp[its]
 |cons x l ih=>
  cases k with
  |zero=>simp[its]
  |succ k=>rw[List.take_succ_cons,ni,ni,ih,show(k+1)*2=k*2+1+1 by omega];rfl
theorem D7:(prog.info? 156).map (fun i=>(i.zero,i.size,i.bytes))=some (some (.agg #[Ju 0,J 0]),2,16):=by kernel_rfl
def okI (x:It):Prop:=I64 x.id∧x.key<18446744073709551616
def fH (l:List It):Prop:=∀ x∈l,okI x
theorem oU:okI .zero:=⟨by unfold I64 It.zero;simp,by unfold It.zero;simp⟩
theorem fH.get {l:List It} (h:fH l) (k:Nat):okI (l.getD k .zero):=by
 rw[List.getD_eq_getElem?_getD]
 cases hk:l[k]? with
 |none=>exact oU
 |some x=>exact h x (List.mem_of_getElem? hk)
theorem fH.set {l:List It} (h:fH l) {x:It} (hx:okI x) (k:Nat):fH (l.set k x):=fun y hy=>by
 rcases List.mem_or_eq_of_mem_set hy with hy|rfl
 ·exact h y hy
 ·exact hx
theorem fH.swap {l:List It} (h:fH l) (i j:Nat):fH (gq l i j):=(h.set (h.get j) i).set (h.get i) j
theorem fH.up {f:Nat} {l:List It} (h:fH l) (i:Nat):fH (hup f l i):=by
 induction f generalizing l i with
 |zero=>exact h
 |succ f ih=>unfold hup;split<;>first|exact h|exact ih (h.swap _ _) _
theorem fH.down {f:Nat} {l:List It} (h:fH l) (i:Nat):fH (hdown f l i):=by
 induction f generalizing l i with
 |zero=>exact h
 |succ f ih=>unfold hdown;split<;>first|exact h|exact ih (h.swap _ _) _
theorem fH.take {l:List It} (h:fH l) (k:Nat):fH (l.take k):=fun x hx=>h x (List.mem_of_mem_take hx)
theorem fH.snoc {l:List It} (h:fH l) {x:It} (hx:okI x):fH (l++[x]):=fun y hy=>by
 rcases List.mem_append.1 hy with hy|hy
 ·exact h y hy
 ·simp at hy;subst hy;exact hx
theorem fH.lq {l:List It} (h:fH l) (i:Nat):fH (gu l i):=by
 have h1:fH (hcut l i):=(h.swap _ _).take _;unfold gu
 split
 ·exact(h1.up i).down i
 ·exact h1
end Go.Proofs.YtjnbbmgbmiggbaaGreatDoor
