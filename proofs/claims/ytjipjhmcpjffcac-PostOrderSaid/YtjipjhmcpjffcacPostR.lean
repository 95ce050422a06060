/- The methods of the reference's Post: what they do to the memory under it, and to its lists. -/
import Derived.Test.YtjipjhmcpjffcacPostC
import Derived.Test.YtjipjhmcpjffcacRegionD
set_option linter.unusedSimpArgs false
set_option linter.unusedVariables false
set_option maxRecDepth 20000
namespace Go.Proofs.Ytjipjhmcpjffcac
open Go Go.RowKit Go.Maps

theorem rloc_pure (k a b : Int) : Pure Try.prog 67 #[.int .i64 k, .int .i64 a, .int .i64 b] (⟨k, a, b⟩ : Lc).val := fun w => by
  go_enter Try.func67, Try.ntmps67
  go_wp2
  exact bodyPost_ret (results_cell_row rfl _ _ w.heap.size 72 #[.int .i64 k, .int .i64 a, .int .i64 b] (0, 0) _ rfl (Row.new w [.int .i64 k, .int .i64 a, .int .i64 b] 72) Try.underlying72 rfl (by kernel_rfl)) rfl ⟨rfl, (Chg.refl _ _).alloc _⟩
/-! ### any order -/
theorem stars_perm {w : World} {As Bs : List HA} (p : As.Perm Bs) : ∀ fp, (stars As).holds w fp → ∃ fp', (stars Bs).holds w fp' ∧ ∀ k, k ∈ fp' ↔ k ∈ fp := by
  induction p with
  | nil => intro fp h; exact ⟨fp, h, fun _ => Iff.rfl⟩
  | cons X p ih =>
    rintro fp ⟨f, g, h1, h2, h3, rfl⟩
    obtain ⟨g', k1, k2⟩ := ih g h2
    exact ⟨f ++ g', ⟨f, g', h1, k1, fun k hk hm => h3 k hk ((k2 k).1 hm), rfl⟩, fun k => by simp [k2]⟩
  | swap X Y l =>
    rintro fp ⟨f, g, h1, ⟨f', g', k1, k2, k3, rfl⟩, h3, rfl⟩
    refine ⟨f' ++ (f ++ g'), ⟨f', f ++ g', k1, ⟨f, g', h1, k2, fun k hk hm => h3 k hk (by simp [hm]), rfl⟩, fun k hk hm => ?_, rfl⟩, fun k => by simp [or_left_comm]⟩
    rcases List.mem_append.1 hm with hm | hm
    · exact h3 k hm (by simp [hk])
    · exact k3 k hk hm
  | trans p q ih1 ih2 =>
    intro fp h
    obtain ⟨f1, h1, e1⟩ := ih1 fp h
    obtain ⟨f2, h2, e2⟩ := ih2 f1 h1
    exact ⟨f2, h2, fun k => (e2 k).trans (e1 k)⟩
theorem Scope.perm {S : List Nat} {w0 w : World} {As Bs : List HA} (h : Scope S w0 w As) (p : As.Perm Bs) : Scope S w0 w Bs := by
  obtain ⟨c, fp, h1, h2⟩ := h
  obtain ⟨fp', k1, k2⟩ := stars_perm p fp h1
  exact ⟨c, fp', k1, fun k hk => h2 k ((k2 k).1 hk)⟩
theorem pick_perm {α : Type _} : ∀ (l : List α) (i : Nat) (hi : i < l.length), l.Perm (l[i] :: l.eraseIdx i) := by
  intro l
  induction l with
  | nil => intro i hi; simp at hi
  | cons a l ih =>
    intro i hi
    cases i with
    | zero => exact .refl _
    | succ i => exact ((ih i (by simpa using hi)).cons a).trans (.swap _ _ _)
/-- Thing i comes first. -/
theorem Scope.pick {S : List Nat} {w0 w : World} {As : List HA} (h : Scope S w0 w As) (i : Nat) {A : HA} (hi : As[i]? = some A) : Scope S w0 w (A :: As.eraseIdx i) := by
  obtain ⟨hl, he⟩ := List.getElem?_eq_some_iff.1 hi
  subst he
  exact h.perm (pick_perm As i hl)

/-! ### the lists -/
def ikeys {α : Type} (l : List (Int × α)) : List Value := l.map fun x => .int .i64 x.1
def cvals (l : List (Int × Cl)) : List Value := l.flatMap fun x => x.2.cells
def rcell (r : Rt) (s : Value) : List Value := [.int .i64 r.e, s, .int .i64 r.n, .int .u64 r.v]
def rcells (l : List (Int × Rt)) (sl : List Value) : List Value := (l.zip sl).flatMap fun z => rcell z.1.2 z.2
theorem ikeys_get {α : Type} {l : List (Int × α)} {k : Nat} {y : Int × α} (h : l[k]? = some y) : (ikeys l)[k]? = some (.int .i64 y.1) := by simp [ikeys, h]
theorem ikeys_snoc {α : Type} (l : List (Int × α)) (k : Int) (c : α) : ikeys (l ++ [(k, c)]) = ikeys l ++ [.int .i64 k] := by simp [ikeys]
theorem cvals_snoc (l : List (Int × Cl)) (k : Int) (c : Cl) : cvals (l ++ [(k, c)]) = cvals l ++ [.int .i64 c.op, .int .i64 c.flow, .int .i64 c.a, .int .i64 c.b] := by simp [cvals, Cl.cells]
theorem rcells_snoc (l : List (Int × Rt)) (sl : List Value) (h : sl.length = l.length) (k : Int) (r : Rt) (s : Value) : rcells (l ++ [(k, r)]) (sl ++ [s]) = rcells l sl ++ [.int .i64 r.e, s, .int .i64 r.n, .int .u64 r.v] := by
  unfold rcells
  rw [List.zip_append h.symm]
  simp [rcell]
theorem cvals_get (l : List (Int × Cl)) : ∀ (k : Nat) (y : Int × Cl), l[k]? = some y → ∀ j u, y.2.cells[j]? = some u → (cvals l)[k * 4 + j]? = some u := by
  induction l with
  | nil => intro k y h; simp at h
  | cons x l ih =>
    intro k y h j u hu
    have e : cvals (x :: l) = x.2.cells ++ cvals l := by simp [cvals]
    have hl : x.2.cells.length = 4 := rfl
    have hj : j < 4 := (List.getElem?_eq_some_iff.1 hu).1
    cases k with
    | zero => simp at h; subst h; rw [e, Nat.zero_mul, Nat.zero_add, List.getElem?_append_left (by omega)]; exact hu
    | succ k =>
      rw [e, List.getElem?_append_right (by omega), hl, show (k + 1) * 4 + j - 4 = k * 4 + j by omega]
      exact ih k y (by simpa using h) j u hu
theorem rcells_get : ∀ (l : List (Int × Rt)) (sl : List Value) (k : Nat) (y : Int × Rt) (s : Value), l[k]? = some y → sl[k]? = some s → ∀ j u, (rcell y.2 s)[j]? = some u → (rcells l sl)[k * 4 + j]? = some u := by
  intro l
  induction l with
  | nil => intro sl k y s h; simp at h
  | cons x l ih =>
    intro sl k y s h hs j u hu
    cases sl with
    | nil => simp at hs
    | cons t sl =>
      have e : rcells (x :: l) (t :: sl) = rcell x.2 t ++ rcells l sl := by simp [rcells]
      have hl : (rcell x.2 t).length = 4 := rfl
      have hj : j < 4 := (List.getElem?_eq_some_iff.1 hu).1
      cases k with
      | zero => simp at h hs; subst h; subst hs; rw [e, Nat.zero_mul, Nat.zero_add, List.getElem?_append_left (by omega)]; exact hu
      | succ k =>
        rw [e, List.getElem?_append_right (by omega), hl, show (k + 1) * 4 + j - 4 = k * 4 + j by omega]
        exact ih sl k y s (by simpa using h) (by simpa using hs) j u hu
theorem lastOf_take {α : Type} (z : α) (l : List (Int × α)) (k : Nat) (y : Int × α) (h : l[k]? = some y) (o : Int) : lastOf z (l.take (k + 1)) o = if y.1 = o then y.2 else lastOf z (l.take k) o := by
  rw [List.take_add_one, h]
  exact lastOf_snoc z (l.take k) y.1 y.2 o
/-- The slices of the results that were handed in: each in memory of its own. -/
def slA (sl : List Value) (JR : List (Int × Rt)) : HA where
  holds w fp := (∀ k, k ∈ fp → k < w.heap.size) ∧ sl.length = JR.length ∧ ∀ (i : Nat) (y : Int × Rt) (s : Value), JR[i]? = some y → sl[i]? = some s → few' y.2.pk ∧ w.ownsRow 0 48 3 s y.2.pk.length (pks y.2.pk) ∧ ∀ k, s.ownBlock = some k → k ∈ fp
  lt := by rintro w fp ⟨h, _⟩ k hk; exact h k hk
  chg := by
    rintro w w' S fp ⟨h1, h2, h3⟩ c hn
    refine ⟨fun k hk => Nat.lt_of_lt_of_le (h1 k hk) c.size, h2, fun i y s hy hs => ?_⟩
    obtain ⟨q1, q2, q3⟩ := h3 i y s hy hs
    exact ⟨q1, ownsRow_chg q2 c (fun k hk => hn k (q3 k hk)), q3⟩
theorem Scope.sl_snoc {S : List Nat} {w0 w : World} {sl : List Value} {JR : List (Int × Rt)} {j : Int} {r : Rt} {s : Value} {Bs : List HA} (hf : few' r.pk)
    (h : Scope S w0 w (slA sl JR :: ownA s 48 3 r.pk.length (pks r.pk) :: Bs)) : Scope S w0 w (slA (sl ++ [s]) (JR ++ [(j, r)]) :: Bs) := by
  have h' : Scope S w0 w ([slA sl JR, ownA s 48 3 r.pk.length (pks r.pk)] ++ Bs) := h
  obtain ⟨fp, hfp, hd⟩ := h'.does
  obtain ⟨f, g, ⟨k1, k2, k3⟩, hg, ha, rfl⟩ := hfp
  obtain ⟨o1, rfl⟩ := stars_one hg
  refine hd [slA (sl ++ [s]) (JR ++ [(j, r)])] w (After.intro1 (A := slA (sl ++ [s]) (JR ++ [(j, r)])) ⟨f ++ s.ownBlock.toList, ⟨fun k hk => ?_, by simp [k2], fun i y t hy ht => ?_⟩, Chg.refl _ _, Own.refl _ _⟩)
  · rcases List.mem_append.1 hk with hk | hk
    · exact k1 k hk
    · exact (o1.lt k (by simpa using hk)).2
  · by_cases e : i < JR.length
    · rw [List.getElem?_append_left e] at hy
      rw [List.getElem?_append_left (by omega)] at ht
      obtain ⟨q1, q2, q3⟩ := k3 i y t hy ht
      exact ⟨q1, q2, fun k hk => by simp [q3 k hk]⟩
    · have hi : i = JR.length := by
        have := (List.getElem?_eq_some_iff.1 hy).1
        simp at this
        omega
      subst hi
      rw [List.getElem?_append_right (by omega)] at hy ht
      simp at hy
      rw [k2] at ht
      simp at ht
      subst hy
      subst ht
      exact ⟨hf, o1, fun k hk => by simp [hk]⟩
structure RC where
  vK : Value
  vJ : Value
  vC : Value
  vR : Value
  sl : List Value
@[reducible] def rpostL (q x n : Nat) (W : Int) (σ : MS) (KC : List (Int × Cl)) (JR : List (Int × Rt)) (c : RC) : List HA :=
  [refA x n σ, box q [ptr x, .int .i64 W, c.vK, c.vJ, c.vC, c.vR] 59, ownA c.vK 3 1 KC.length (ikeys KC), ownA c.vC 32 4 KC.length (cvals KC), ownA c.vJ 3 1 JR.length (ikeys JR), ownA c.vR 41 4 JR.length (rcells JR c.sl), slA c.sl JR]
/-- The reference's post: its memory, its own block, its lists. -/
@[reducible] def rpostA (q x n : Nat) (W : Int) (σ : MS) (KC : List (Int × Cl)) (JR : List (Int × Rt)) : HA := exA fun c => stars (rpostL q x n W σ KC JR c)

def EndsX {β : Type} (S : List Nat) (w0 : World) (r : Value) (Gl : β → List HA) (e : Ending) (w' : World) : Prop := e = .returned r ∧ ∃ b Js, Scope S w0 w' (Gl b ++ Js)
theorem EndsX.mk {β : Type} {S : List Nat} {w0 w' : World} {r : Value} {Gl : β → List HA} (b : β) (Js : List HA) (h : Scope S w0 w' (Gl b ++ Js)) : EndsX S w0 r Gl (.returned r) w' := ⟨rfl, b, Js, h⟩
theorem EndsX.mk' {β : Type} {S : List Nat} {w0 w' : World} {r r' : Value} {Gl : β → List HA} (he : r = r') (b : β) (Js : List HA) (h : Scope S w0 w' (Gl b ++ Js)) : EndsX S w0 r' Gl (.returned r) w' := by subst he; exact ⟨rfl, b, Js, h⟩
theorem Does.packX {P : Program} {α β : Type} {Fl : α → List HA} {Gl : β → List HA} {f : FuncId} {args : Array Value} {r : Value} (d : ∀ a (S : List Nat) (w0 w : World), Scope S w0 w (Fl a) → Calls P f args w (EndsX S w0 r Gl)) :
    Does P [exA fun a => stars (Fl a)] f args r [exA fun b => stars (Gl b)] := fun w fp h => by
  obtain ⟨a, h1⟩ := stars_one h
  refine (d a fp w w (Scope.start h1)).mono fun _ _ ⟨he, b, Js, hs⟩ => ⟨he, ?_⟩
  obtain ⟨f', k1, k2, k3⟩ := hs.drop.after
  exact ⟨f', stars_mk1 (A := exA fun b => stars (Gl b)) ⟨b, k1⟩, k2, k3⟩
theorem own_formS {w : World} {v : Value} {t : TypeId} {n size : Nat} {xs : List Value} (h : w.ownsRow 0 t size v n xs) : ∃ oa cp, v = .slice oa n cp ∧ n ≤ cp ∧ ∀ j u, xs[j]? = some u → ∃ g, oa = some ⟨g, 0, none⟩ ∧ w.cell? ⟨g, j, none⟩ = some u := by
  rcases ownsRow_form h with ⟨rfl, rfl⟩ | ⟨g, cap, rfl, _, hc, _⟩
  · refine ⟨none, 0, rfl, by omega, fun j u hu => ?_⟩
    have := (List.getElem?_eq_some_iff.1 hu).1
    rw [h.1] at this
    omega
  · exact ⟨_, cap, rfl, hc, fun j u hu => ⟨g, rfl, ownsRow_cell h rfl hu⟩⟩
/-- A row that is appended to. -/
theorem Scope.appended {S : List Nat} {w0 w : World} {Bs : List HA} {v : Value} {t : TypeId} {size n : Nat} {xs cs : List Value} (h : Scope S w0 w (ownA v t size n xs :: Bs)) {w1 : World} {gg cap : Nat} (own : w1.ownsRow 0 t size (.slice (some ⟨gg, 0, none⟩) (n + 1) cap) (n + 1) (xs ++ cs))
    (gro : w.grownBy w1 v.ownBlock) (hat : v.ownBlock = some gg ∨ gg = w.heap.size) : Scope S w0 w1 (ownA (.slice (some ⟨gg, 0, none⟩) (n + 1) cap) t size (n + 1) (xs ++ cs) :: Bs) := by
  have h' : Scope S w0 w ([ownA v t size n xs] ++ Bs) := h
  obtain ⟨f, hf, hd⟩ := h'.does
  obtain ⟨h1, rfl⟩ := stars_one hf
  refine hd [ownA (.slice (some ⟨gg, 0, none⟩) (n + 1) cap) t size (n + 1) (xs ++ cs)] w1 (After.intro1 ⟨[gg], ⟨own, by simp [Value.ownBlock]⟩, grown_chg gro, fun k hk => ?_⟩)
  simp at hk
  subst hk
  rcases hat with h | h
  · exact .inl (by simp [h])
  · exact .inr (by omega)
theorem infoInt : (Try.prog.info? 3).map (fun i => (i.zero, i.size, i.bytes)) = some (some (.int .i64 0), 1, 8) := by kernel_rfl
theorem infoCall : (Try.prog.info? 32).map (fun i => (i.zero, i.size, i.bytes)) = some (some (.agg #[.int .i64 0, .int .i64 0, .int .i64 0, .int .i64 0]), 4, 32) := by kernel_rfl
theorem infoRet : (Try.prog.info? 41).map (fun i => (i.zero, i.size, i.bytes)) = some (some (.agg #[.int .i64 0, .slice none 0 0, .int .i64 0, .int .u64 0]), 4, 48) := by kernel_rfl
/-- 'append(nil, s...)': a copy. -/
theorem wpList_copy_nil {w : World} {ops : Array Oper} {rest : List Oper} {o : Oper} {a : Act} {Q : Exit → Act → World → Prop} (hg : o.guard = none) (s x : Operand)
    (hop : o.op = .call { callee := .builtin .append, args := #[s, x], argTypes := #[39, 39] }) (v : Value) (L : List Pk) (hs : a.eval s = .slice none 0 0) (hx : a.eval x = v) (h : PkS w v L) (hf : few' L)
    (hK : ∀ v' w', w'.ownsRow 0 48 3 v' L.length (pks L) → Chg [] w w' → (∀ k, v'.ownBlock = some k → w.heap.size ≤ k) → wpList Try.prog ops Q rest (a.put o.dst v') w') : wpList Try.prog ops Q (o :: rest) a w := by
  obtain ⟨i0, hi, hz0, hz1, hz2⟩ := info_parts infoPacket
  unfold few' at hf
  have o0 : w.ownsRow 0 48 3 (.slice none 0 0) 0 [] := ⟨rfl, .inl ⟨rfl, rfl⟩⟩
  rcases h with ⟨rfl, rfl⟩ | ⟨ad, cap, rfl, _, hc⟩
  · refine wpList_plain hg fun K hK' => ?_
    have hrun := run_append_owned_none (P := Try.prog) w 0 39 o.type 48 i0 3 Try.underlying39 hi _ 0 [] o0
    unfold Oper.wp
    simp [execOp, hop, resolve, invoke, builtin, hs, hx, hrun, Result.andThen]
    exact hK' _ _ (hK _ w o0 (Chg.refl _ _) (fun k hk => by simp [Value.ownBlock] at hk))
  · refine wpList_append_own_at w hg s x 39 hop 0 48 i0 _ 3 24 Try.underlying39 hi hz0 hz1 hz2 rfl (by decide) (.slice none 0 0) 0 [] hs o0 ad L.length cap (pks L) hx (pks_length L) hc (pks_one L) (by unfold maxLen; omega) (by omega) (by omega) ?_
    intro v' w1 ho hgrow hnil hat
    refine hK v' w1 (by simpa using ho) ((Chg.refl [] w).grown hgrow (fun k hk => by simp [Value.ownBlock] at hk)) (fun k hk => ?_)
    rcases hat with h | h
    · rw [h] at hk; simp [Value.ownBlock] at hk
    · rw [h] at hk; simp at hk; omega

section
variable {q x n : Nat} {W : Int} {σ : MS} {KC : List (Int × Cl)} {JR : List (Int × Rt)} {vK vJ vC vR : Value} {sl : List Value}

set_option maxHeartbeats 1000000 in
theorem rpsend_does0 (who : Int) (hn : n ≤ 1000000) (hl : σ.log.length ≤ 1000000) :
    Does Try.prog [stars [refA x n σ, box q [ptr x, .int .i64 W, vK, vJ, vC, vR] 59, ownA vK 3 1 KC.length (ikeys KC), ownA vC 32 4 KC.length (cvals KC), ownA vJ 3 1 JR.length (ikeys JR), ownA vR 41 4 JR.length (rcells JR sl), slA sl JR]] 46 #[ptr q, .int .i64 who] (.tuple #[]) [stars [refA x (n + 1) ((σ.put who 2 (reqL who)).set (reqL who) 1), box q [ptr x, .int .i64 W, vK, vJ, vC, vR] 59, ownA vK 3 1 KC.length (ikeys KC), ownA vC 32 4 KC.length (cvals KC), ownA vJ 3 1 JR.length (ikeys JR), ownA vR 41 4 JR.length (rcells JR sl), slA sl JR]] := Does.pack fun S w0 w h => by
  have c0 : w.cell? ⟨q, 0, none⟩ = some (ptr x) := (h.row 1 rfl).cell rfl
  have H0 := Lib.hid h
  clear h
  go_enter Try.func46, Try.ntmps46
  go_wp2_with fail
  go_region_held3 (fun w' => w'.cell? ⟨q, 0, none⟩ = some (ptr x))
    (go_keep)
    (first
      | (go_at_call 67
         refine ((rloc_pure 5 who 0).at H0.out.drew).mono ?_
         rintro e w1 ⟨rfl, s1⟩
         have g1 : w1.cell? ⟨q, 0, none⟩ = some (ptr x) := (s1.row 1 rfl).cell rfl
         have H1 := Lib.hid s1
         clear s1)
      | (go_at_call 68
         refine ((rstore_does who (reqL who) 1 hn hl).at0 H1.out).mono ?_
         rintro e wz ⟨rfl, sz⟩
         have gz : wz.cell? ⟨q, 0, none⟩ = some (ptr x) := (sz.row 1 rfl).cell rfl
         have Hz := Lib.hid sz
         clear sz))
  go_wp2
  go_end0
  exact Ends.mk [] (by simpa using Hz.out)
theorem rpsend_does (who : Int) (hn : n ≤ 1000000) (hl : σ.log.length ≤ 1000000) : Does Try.prog [rpostA q x n W σ KC JR] 46 #[ptr q, .int .i64 who] (.tuple #[]) [rpostA q x (n + 1) W ((σ.put who 2 (reqL who)).set (reqL who) 1) KC JR] :=
  Does.ex (F := fun c => stars (rpostL q x n W σ KC JR c)) (G := fun c => stars (rpostL q x (n + 1) W ((σ.put who 2 (reqL who)).set (reqL who) 1) KC JR c)) fun c => rpsend_does0 (vK := c.vK) (vJ := c.vJ) (vC := c.vC) (vR := c.vR) (sl := c.sl) who hn hl

set_option maxHeartbeats 1000000 in
theorem rpready_does0 (who j : Int) (hn : n ≤ 1000000) (hl : σ.log.length ≤ 1000000) :
    Does Try.prog [stars [refA x n σ, box q [ptr x, .int .i64 W, vK, vJ, vC, vR] 59, ownA vK 3 1 KC.length (ikeys KC), ownA vC 32 4 KC.length (cvals KC), ownA vJ 3 1 JR.length (ikeys JR), ownA vR 41 4 JR.length (rcells JR sl), slA sl JR]] 52 #[ptr q, .int .i64 who, .int .i64 j] (.tuple #[]) [stars [refA x (n + 1) ((σ.put who 2 (reqL j)).set (reqL j) 2), box q [ptr x, .int .i64 W, vK, vJ, vC, vR] 59, ownA vK 3 1 KC.length (ikeys KC), ownA vC 32 4 KC.length (cvals KC), ownA vJ 3 1 JR.length (ikeys JR), ownA vR 41 4 JR.length (rcells JR sl), slA sl JR]] := Does.pack fun S w0 w h => by
  have c0 : w.cell? ⟨q, 0, none⟩ = some (ptr x) := (h.row 1 rfl).cell rfl
  have H0 := Lib.hid h
  clear h
  go_enter Try.func52, Try.ntmps52
  go_wp2_with fail
  go_region_held3 (fun w' => w'.cell? ⟨q, 0, none⟩ = some (ptr x))
    (go_keep)
    (first
      | (go_at_call 67
         refine ((rloc_pure 5 j 0).at H0.out.drew).mono ?_
         rintro e w1 ⟨rfl, s1⟩
         have g1 : w1.cell? ⟨q, 0, none⟩ = some (ptr x) := (s1.row 1 rfl).cell rfl
         have H1 := Lib.hid s1
         clear s1)
      | (go_at_call 68
         refine ((rstore_does who (reqL j) 2 hn hl).at0 H1.out).mono ?_
         rintro e wz ⟨rfl, sz⟩
         have gz : wz.cell? ⟨q, 0, none⟩ = some (ptr x) := (sz.row 1 rfl).cell rfl
         have Hz := Lib.hid sz
         clear sz))
  go_wp2
  go_end0
  exact Ends.mk [] (by simpa using Hz.out)
theorem rpready_does (who j : Int) (hn : n ≤ 1000000) (hl : σ.log.length ≤ 1000000) : Does Try.prog [rpostA q x n W σ KC JR] 52 #[ptr q, .int .i64 who, .int .i64 j] (.tuple #[]) [rpostA q x (n + 1) W ((σ.put who 2 (reqL j)).set (reqL j) 2) KC JR] :=
  Does.ex (F := fun c => stars (rpostL q x n W σ KC JR c)) (G := fun c => stars (rpostL q x (n + 1) W ((σ.put who 2 (reqL j)).set (reqL j) 2) KC JR c)) fun c => rpready_does0 (vK := c.vK) (vJ := c.vJ) (vC := c.vC) (vR := c.vR) (sl := c.sl) who j hn hl

set_option maxHeartbeats 1000000 in
theorem rptry_does0 (who : Int) (hn : n ≤ 1000000) (hl : σ.log.length ≤ 1000000) :
    Does Try.prog [stars [refA x n σ, box q [ptr x, .int .i64 W, vK, vJ, vC, vR] 59, ownA vK 3 1 KC.length (ikeys KC), ownA vC 32 4 KC.length (cvals KC), ownA vJ 3 1 JR.length (ikeys JR), ownA vR 41 4 JR.length (rcells JR sl), slA sl JR]] 47 #[ptr q, .int .i64 who] (.bool (decide (σ.num lockL = 0))) [stars [refA x (n + 1) (σ.swap who lockL 0 1), box q [ptr x, .int .i64 W, vK, vJ, vC, vR] 59, ownA vK 3 1 KC.length (ikeys KC), ownA vC 32 4 KC.length (cvals KC), ownA vJ 3 1 JR.length (ikeys JR), ownA vR 41 4 JR.length (rcells JR sl), slA sl JR]] := Does.pack fun S w0 w h => by
  have c0 : w.cell? ⟨q, 0, none⟩ = some (ptr x) := (h.row 1 rfl).cell rfl
  have H0 := Lib.hid h
  clear h
  go_enter Try.func47, Try.ntmps47
  go_wp2_with fail
  go_region_held3 (fun w' => w'.cell? ⟨q, 0, none⟩ = some (ptr x))
    (go_keep)
    (first
      | (go_at_call 67
         refine ((rloc_pure 1 0 0).at H0.out.drew).mono ?_
         rintro e w1 ⟨rfl, s1⟩
         have g1 : w1.cell? ⟨q, 0, none⟩ = some (ptr x) := (s1.row 1 rfl).cell rfl
         have H1 := Lib.hid s1
         clear s1)
      | (go_at_call 69
         refine ((rswap_does who lockL 0 1 hn hl).at0 H1.out).mono ?_
         rintro e wz ⟨rfl, sz⟩
         have gz : wz.cell? ⟨q, 0, none⟩ = some (ptr x) := (sz.row 1 rfl).cell rfl
         have Hz := Lib.hid sz
         clear sz))
  go_wp2
  go_ret
  exact Ends.mk [] (by simpa using Hz.out)
theorem rptry_does (who : Int) (hn : n ≤ 1000000) (hl : σ.log.length ≤ 1000000) : Does Try.prog [rpostA q x n W σ KC JR] 47 #[ptr q, .int .i64 who] (.bool (decide (σ.num lockL = 0))) [rpostA q x (n + 1) W (σ.swap who lockL 0 1) KC JR] :=
  Does.ex (F := fun c => stars (rpostL q x n W σ KC JR c)) (G := fun c => stars (rpostL q x (n + 1) W (σ.swap who lockL 0 1) KC JR c)) fun c => rptry_does0 (vK := c.vK) (vJ := c.vJ) (vC := c.vC) (vR := c.vR) (sl := c.sl) who hn hl

set_option maxHeartbeats 1000000 in
theorem rpleave_does0 (who : Int) (hn : n ≤ 1000000) (hl : σ.log.length ≤ 1000000) :
    Does Try.prog [stars [refA x n σ, box q [ptr x, .int .i64 W, vK, vJ, vC, vR] 59, ownA vK 3 1 KC.length (ikeys KC), ownA vC 32 4 KC.length (cvals KC), ownA vJ 3 1 JR.length (ikeys JR), ownA vR 41 4 JR.length (rcells JR sl), slA sl JR]] 48 #[ptr q, .int .i64 who] (.tuple #[]) [stars [refA x (n + 1) ((σ.put who 2 lockL).set lockL 0), box q [ptr x, .int .i64 W, vK, vJ, vC, vR] 59, ownA vK 3 1 KC.length (ikeys KC), ownA vC 32 4 KC.length (cvals KC), ownA vJ 3 1 JR.length (ikeys JR), ownA vR 41 4 JR.length (rcells JR sl), slA sl JR]] := Does.pack fun S w0 w h => by
  have c0 : w.cell? ⟨q, 0, none⟩ = some (ptr x) := (h.row 1 rfl).cell rfl
  have H0 := Lib.hid h
  clear h
  go_enter Try.func48, Try.ntmps48
  go_wp2_with fail
  go_region_held3 (fun w' => w'.cell? ⟨q, 0, none⟩ = some (ptr x))
    (go_keep)
    (first
      | (go_at_call 67
         refine ((rloc_pure 1 0 0).at H0.out.drew).mono ?_
         rintro e w1 ⟨rfl, s1⟩
         have g1 : w1.cell? ⟨q, 0, none⟩ = some (ptr x) := (s1.row 1 rfl).cell rfl
         have H1 := Lib.hid s1
         clear s1)
      | (go_at_call 68
         refine ((rstore_does who lockL 0 hn hl).at0 H1.out).mono ?_
         rintro e wz ⟨rfl, sz⟩
         have gz : wz.cell? ⟨q, 0, none⟩ = some (ptr x) := (sz.row 1 rfl).cell rfl
         have Hz := Lib.hid sz
         clear sz))
  go_wp2
  go_end0
  exact Ends.mk [] (by simpa using Hz.out)
theorem rpleave_does (who : Int) (hn : n ≤ 1000000) (hl : σ.log.length ≤ 1000000) : Does Try.prog [rpostA q x n W σ KC JR] 48 #[ptr q, .int .i64 who] (.tuple #[]) [rpostA q x (n + 1) W ((σ.put who 2 lockL).set lockL 0) KC JR] :=
  Does.ex (F := fun c => stars (rpostL q x n W σ KC JR c)) (G := fun c => stars (rpostL q x (n + 1) W ((σ.put who 2 lockL).set lockL 0) KC JR c)) fun c => rpleave_does0 (vK := c.vK) (vJ := c.vJ) (vC := c.vC) (vR := c.vR) (sl := c.sl) who hn hl

set_option maxHeartbeats 1000000 in
theorem rpstate_does0 (who j : Int) (hn : n ≤ 1000000) (hl : σ.log.length ≤ 1000000) :
    Does Try.prog [stars [refA x n σ, box q [ptr x, .int .i64 W, vK, vJ, vC, vR] 59, ownA vK 3 1 KC.length (ikeys KC), ownA vC 32 4 KC.length (cvals KC), ownA vJ 3 1 JR.length (ikeys JR), ownA vR 41 4 JR.length (rcells JR sl), slA sl JR]] 49 #[ptr q, .int .i64 who, .int .i64 j] (.int .u64 (σ.num (reqL j))) [stars [refA x (n + 1) (σ.put who 1 (reqL j)), box q [ptr x, .int .i64 W, vK, vJ, vC, vR] 59, ownA vK 3 1 KC.length (ikeys KC), ownA vC 32 4 KC.length (cvals KC), ownA vJ 3 1 JR.length (ikeys JR), ownA vR 41 4 JR.length (rcells JR sl), slA sl JR]] := Does.pack fun S w0 w h => by
  have c0 : w.cell? ⟨q, 0, none⟩ = some (ptr x) := (h.row 1 rfl).cell rfl
  have H0 := Lib.hid h
  clear h
  go_enter Try.func49, Try.ntmps49
  go_wp2_with fail
  go_region_held3 (fun w' => w'.cell? ⟨q, 0, none⟩ = some (ptr x))
    (go_keep)
    (first
      | (go_at_call 67
         refine ((rloc_pure 5 j 0).at H0.out.drew).mono ?_
         rintro e w1 ⟨rfl, s1⟩
         have g1 : w1.cell? ⟨q, 0, none⟩ = some (ptr x) := (s1.row 1 rfl).cell rfl
         have H1 := Lib.hid s1
         clear s1)
      | (go_at_call 70
         refine ((rload_does who (reqL j) hn hl).at0 H1.out).mono ?_
         rintro e wz ⟨rfl, sz⟩
         have gz : wz.cell? ⟨q, 0, none⟩ = some (ptr x) := (sz.row 1 rfl).cell rfl
         have Hz := Lib.hid sz
         clear sz))
  go_wp2
  go_ret
  exact Ends.mk [] (by simpa using Hz.out)
theorem rpstate_does (who j : Int) (hn : n ≤ 1000000) (hl : σ.log.length ≤ 1000000) : Does Try.prog [rpostA q x n W σ KC JR] 49 #[ptr q, .int .i64 who, .int .i64 j] (.int .u64 (σ.num (reqL j))) [rpostA q x (n + 1) W (σ.put who 1 (reqL j)) KC JR] :=
  Does.ex (F := fun c => stars (rpostL q x n W σ KC JR c)) (G := fun c => stars (rpostL q x (n + 1) W (σ.put who 1 (reqL j)) KC JR c)) fun c => rpstate_does0 (vK := c.vK) (vJ := c.vJ) (vC := c.vC) (vR := c.vR) (sl := c.sl) who j hn hl

theorem rask_done {S : List Nat} {w0 w : World} {Js : List HA} {N gA pA gB pB : Nat} {τ : MS} {who : Int} {c : Cl}
    (h : Scope S w0 w (ownA (.slice (some ⟨gA, 0, none⟩) (N + 1) pA) 3 1 (N + 1) (ikeys KC ++ [.int .i64 who]) :: ownA (.slice (some ⟨gB, 0, none⟩) (N + 1) pB) 32 4 (N + 1) (cvals KC ++ [.int .i64 c.op, .int .i64 c.flow, .int .i64 c.a, .int .i64 c.b]) :: box q [ptr x, .int .i64 W, vK, vJ, vC, vR] 59 :: refA x n τ :: ownA vJ 3 1 JR.length (ikeys JR) :: ownA vR 41 4 JR.length (rcells JR sl) :: slA sl JR :: Js))
    (hN : N = KC.length) : EndsX S w0 (.tuple #[]) (rpostL q x n W τ (KC ++ [(who, c)]) JR) (.returned (.tuple #[])) ((w.setCell ⟨q, 2, none⟩ (.slice (some ⟨gA, 0, none⟩) (N + 1) pA)).setCell ⟨q, 4, none⟩ (.slice (some ⟨gB, 0, none⟩) (N + 1) pB)) := by
  subst hN
  have q1 := Scope.setbox (As := [ownA _ _ _ _ _, ownA _ _ _ _ _]) h 2 (.slice (some ⟨gA, 0, none⟩) (KC.length + 1) pA)
  have q2 := Scope.setbox (As := [ownA _ _ _ _ _, ownA _ _ _ _ _]) q1 4 (.slice (some ⟨gB, 0, none⟩) (KC.length + 1) pB)
  have q3 := Scope.pick q2 2 rfl
  have q4 := Scope.pick q3 3 rfl
  have e1 := ikeys_snoc KC who c
  have e2 := cvals_snoc KC who c
  have e3 : (KC ++ [(who, c)]).length = KC.length + 1 := by simp
  rw [← e1, ← e2] at q4
  refine EndsX.mk (Gl := rpostL q x n W τ (KC ++ [(who, c)]) JR) ⟨.slice (some ⟨gA, 0, none⟩) (KC.length + 1) pA, vJ, .slice (some ⟨gB, 0, none⟩) (KC.length + 1) pB, vR, sl⟩ Js ?_
  unfold rpostL
  rw [e3]
  exact q4
set_option maxHeartbeats 4000000 in
/-- Ask. -/
theorem rpask_does (who : Int) (c : Cl) (hk : KC.length ≤ 900000) (hl : σ.log.length ≤ 1000000) : Does Try.prog [rpostA q x n W σ KC JR] 45 #[ptr q, .int .i64 who, c.val] (.tuple #[]) [rpostA q x n W (σ.put who 6 (argL who)) (KC ++ [(who, c)]) JR] := by
  refine Does.packX (Fl := rpostL q x n W σ KC JR) (Gl := rpostL q x n W (σ.put who 6 (argL who)) (KC ++ [(who, c)]) JR) fun ⟨vK, vJ, vC, vR, sl⟩ S w0 w h => ?_
  have s1 := Lib.hid (show Scope S w0 (w.alloc (.cells #[.int .i64 c.op, .int .i64 c.flow, .int .i64 c.a, .int .i64 c.b] 32)).drew ([refA x n σ, box q [ptr x, .int .i64 W, vK, vJ, vC, vR] 59, ownA vK 3 1 KC.length (ikeys KC), ownA vC 32 4 KC.length (cvals KC), ownA vJ 3 1 JR.length (ikeys JR), ownA vR 41 4 JR.length (rcells JR sl), slA sl JR] ++ [box w.heap.size [.int .i64 c.op, .int .i64 c.flow, .int .i64 c.a, .int .i64 c.b] 32]) from (h.box [.int .i64 c.op, .int .i64 c.flow, .int .i64 c.a, .int .i64 c.b] 32).drew)
  have g0 : (w.alloc (.cells #[.int .i64 c.op, .int .i64 c.flow, .int .i64 c.a, .int .i64 c.b] 32)).drew.cell? ⟨q, 0, none⟩ = some (ptr x) := (s1.out.row 1 rfl).cell rfl
  clear h
  go_enter Try.func45, Try.ntmps45
  go_wp2_with fail
  go_region_held3 (fun w' => w'.cell? ⟨q, 0, none⟩ = some (ptr x)) (go_keep)
    (first
      | (go_at_call 67
         refine ((rloc_pure 6 who 0).at s1.out).mono ?_
         rintro e wq ⟨rfl, sq⟩
         have g0 : wq.cell? ⟨q, 0, none⟩ = some (ptr x) := (sq.row 1 rfl).cell rfl
         have Hq := Lib.hid sq
         clear sq)
      | (go_at_call 66
         refine ((rlog_does who 6 (argL who) hl).at0 Hq.out).mono ?_
         rintro e wz ⟨rfl, sz⟩
         have g0 : wz.cell? ⟨q, 0, none⟩ = some (ptr x) := (sz.row 1 rfl).cell rfl
         have Hz := Lib.hid sz
         clear sz))
  clear g0
  obtain ⟨B, hB⟩ : ∃ B, B = w.heap.size := ⟨_, rfl⟩
  obtain ⟨oK, cK, eK, hcK, gK⟩ := own_formS (Hz.out.owned' 2 rfl)
  obtain ⟨oC, cC, eC, hcC, gC⟩ := own_formS (Hz.out.owned' 3 rfl)
  obtain ⟨i1, hi1, hx0, hx1, hx2⟩ := info_parts infoInt
  obtain ⟨i2, hi2, hy0, hy1, hy2⟩ := info_parts infoCall
  obtain ⟨N, hN⟩ : ∃ N, N = KC.length := ⟨_, rfl⟩
  have HN := Lib.hid hN
  have hNb : N ≤ 900000 := by omega
  rw [← hB] at Hz
  have Z0 := Lib.hid (show Scope S w0 wz.drew ([ownA vK 3 1 N (ikeys KC), ownA vC 32 4 N (cvals KC), box q [ptr x, .int .i64 W, vK, vJ, vC, vR] 59, refA x n (σ.put who 6 (argL who)), ownA vJ 3 1 JR.length (ikeys JR), ownA vR 41 4 JR.length (rcells JR sl), slA sl JR, box B [.int .i64 c.op, .int .i64 c.flow, .int .i64 c.a, .int .i64 c.b] 32]) from by
    rw [hN]
    have q1 := Scope.pick Hz.out.drew 1 rfl
    have q2 := Scope.pick q1 3 rfl
    exact Scope.pick q2 3 rfl)
  clear gK gC hN Hz
  subst eK
  subst eC
  go_wp2_with fail
  rw [← hB]
  clear hB
  refine wp_region_any (by kernel_rfl) ?_
  change wpAny _ _ _ _ _ _ _ (wz.drew)
  have h0 : (wz.drew).cell? ⟨q, 2, none⟩ = some (.slice oK KC.length cK) ∧ (wz.drew).cell? ⟨q, 4, none⟩ = some (.slice oC KC.length cC) ∧ (wz.drew).cell? ⟨B, 0, none⟩ = some (.int .i64 c.op) ∧ (wz.drew).cell? ⟨B, 1, none⟩ = some (.int .i64 c.flow) ∧ (wz.drew).cell? ⟨B, 2, none⟩ = some (.int .i64 c.a) ∧ (wz.drew).cell? ⟨B, 3, none⟩ = some (.int .i64 c.b) := ⟨(Z0.out.rowm (k := q) (vs := [ptr x, .int .i64 W, .slice oK KC.length cK, vJ, .slice oC KC.length cC, vR]) (t := 59) (by simp)).cell rfl, (Z0.out.rowm (k := q) (vs := [ptr x, .int .i64 W, .slice oK KC.length cK, vJ, .slice oC KC.length cC, vR]) (t := 59) (by simp)).cell rfl, (Z0.out.rowm (k := B) (vs := [.int .i64 c.op, .int .i64 c.flow, .int .i64 c.a, .int .i64 c.b]) (t := 32) (by simp)).cell rfl, (Z0.out.rowm (k := B) (vs := [.int .i64 c.op, .int .i64 c.flow, .int .i64 c.a, .int .i64 c.b]) (t := 32) (by simp)).cell rfl, (Z0.out.rowm (k := B) (vs := [.int .i64 c.op, .int .i64 c.flow, .int .i64 c.a, .int .i64 c.b]) (t := 32) (by simp)).cell rfl, (Z0.out.rowm (k := B) (vs := [.int .i64 c.op, .int .i64 c.flow, .int .i64 c.a, .int .i64 c.b]) (t := 32) (by simp)).cell rfl⟩
  have D0 := Z0
  generalize wz.drew = d0 at D0 h0 ⊢
  refine wpAny_take (i := 0) (v := ?_) rfl (by kernel_rfl) (by kernel_rfl) (by kernel_rfl) (fun _ _ _ h => h) (Or.inl ⟨by rfl, ?_⟩) ?_
  rotate_left 1
  · (intro w'; (try simp only [List.getElem_toArray, List.getElem_cons_succ, List.getElem_cons_zero]); go_simp; (try with_reducible rfl))
  try simp only [Act.put, List.getElem_toArray, List.getElem_cons_succ, List.getElem_cons_zero, List.setIfInBounds_toArray, List.set_cons_zero, List.set_cons_succ]
  refine wpAny_take (i := 1) (v := ?_) rfl (by kernel_rfl) (by kernel_rfl) (by kernel_rfl) (fun _ _ _ h => h) (Or.inl ⟨by rfl, ?_⟩) ?_
  rotate_left 1
  · (intro w'; (try simp only [List.getElem_toArray, List.getElem_cons_succ, List.getElem_cons_zero]); go_simp; (try with_reducible rfl))
  try simp only [Act.put, List.getElem_toArray, List.getElem_cons_succ, List.getElem_cons_zero, List.setIfInBounds_toArray, List.set_cons_zero, List.set_cons_succ]
  refine wpAny_take (i := 2) (v := ?_) rfl (by kernel_rfl) (by kernel_rfl) (by kernel_rfl) (fun _ _ _ h => h) (Or.inl ⟨by rfl, ?_⟩) ?_
  rotate_left 1
  · (intro w'; (try simp only [List.getElem_toArray, List.getElem_cons_succ, List.getElem_cons_zero]); go_simp; (try with_reducible rfl))
  try simp only [Act.put, List.getElem_toArray, List.getElem_cons_succ, List.getElem_cons_zero, List.setIfInBounds_toArray, List.set_cons_zero, List.set_cons_succ]
  refine wpAny_take (i := 3) (v := ?_) rfl (by kernel_rfl) (by kernel_rfl) (by kernel_rfl) (fun _ _ _ h => h) (Or.inl ⟨by rfl, ?_⟩) ?_
  rotate_left 1
  · (intro w'; (try simp only [List.getElem_toArray, List.getElem_cons_succ, List.getElem_cons_zero]); go_simp; (try with_reducible rfl))
  try simp only [Act.put, List.getElem_toArray, List.getElem_cons_succ, List.getElem_cons_zero, List.setIfInBounds_toArray, List.set_cons_zero, List.set_cons_succ]
  refine wpAny_take (i := 4) (v := ?_) rfl (by kernel_rfl) (by kernel_rfl) (by kernel_rfl) (fun _ _ _ h => h) (Or.inl ⟨by rfl, ?_⟩) ?_
  rotate_left 1
  · (intro w'; (try simp only [List.getElem_toArray, List.getElem_cons_succ, List.getElem_cons_zero]); go_simp; (try with_reducible rfl))
  try simp only [Act.put, List.getElem_toArray, List.getElem_cons_succ, List.getElem_cons_zero, List.setIfInBounds_toArray, List.set_cons_zero, List.set_cons_succ]
  refine wpAny_take (i := 6) (v := ?_) rfl (by kernel_rfl) (by kernel_rfl) (by kernel_rfl) (fun _ _ _ h => h) (Or.inl ⟨by rfl, ?_⟩) ?_
  rotate_left 1
  · (intro w'; (try simp only [List.getElem_toArray, List.getElem_cons_succ, List.getElem_cons_zero]); go_simp; (try with_reducible rfl))
  try simp only [Act.put, List.getElem_toArray, List.getElem_cons_succ, List.getElem_cons_zero, List.setIfInBounds_toArray, List.set_cons_zero, List.set_cons_succ]
  refine wpAny_take (i := 9) (v := ?_) rfl (by kernel_rfl) (by kernel_rfl) (by kernel_rfl) (fun _ _ _ h => h) (Or.inl ⟨by rfl, ?_⟩) ?_
  rotate_left 1
  · (intro w'; (try simp only [List.getElem_toArray, List.getElem_cons_succ, List.getElem_cons_zero]); go_simp; (try with_reducible rfl))
  try simp only [Act.put, List.getElem_toArray, List.getElem_cons_succ, List.getElem_cons_zero, List.setIfInBounds_toArray, List.set_cons_zero, List.set_cons_succ]
  refine wpAny_take (i := 10) (v := ?_) rfl (by kernel_rfl) (by kernel_rfl) (by kernel_rfl) (fun _ _ _ h => h) (Or.inl ⟨by rfl, ?_⟩) ?_
  rotate_left 1
  · (intro w'; (try simp only [List.getElem_toArray, List.getElem_cons_succ, List.getElem_cons_zero]); go_simp; (try with_reducible rfl))
  try simp only [Act.put, List.getElem_toArray, List.getElem_cons_succ, List.getElem_cons_zero, List.setIfInBounds_toArray, List.set_cons_zero, List.set_cons_succ]
  refine wpAny_take (i := 11) (v := ?_) rfl (by kernel_rfl) (by kernel_rfl) (by kernel_rfl) (fun _ _ _ h => h) (Or.inl ⟨by rfl, ?_⟩) ?_
  rotate_left 1
  · (intro w'; (try simp only [List.getElem_toArray, List.getElem_cons_succ, List.getElem_cons_zero]); go_simp; (try with_reducible rfl))
  try simp only [Act.put, List.getElem_toArray, List.getElem_cons_succ, List.getElem_cons_zero, List.setIfInBounds_toArray, List.set_cons_zero, List.set_cons_succ]
  refine wpAny_of_U (S := fun w' => w'.cell? ⟨q, 2, none⟩ = some (.slice oK KC.length cK) ∧ w'.cell? ⟨q, 4, none⟩ = some (.slice oC KC.length cC) ∧ w'.cell? ⟨B, 0, none⟩ = some (.int .i64 c.op) ∧ w'.cell? ⟨B, 1, none⟩ = some (.int .i64 c.flow) ∧ w'.cell? ⟨B, 2, none⟩ = some (.int .i64 c.a) ∧ w'.cell? ⟨B, 3, none⟩ = some (.int .i64 c.b)) (U := [5, 7, 8, 12, 13, 14, 15]) _ _ _ _ ?_
  refine wpAnyU_take (i := 5) (v := ?_) rfl (by kernel_rfl) (by kernel_rfl) (by kernel_rfl) (by kernel_rfl) (fun _ _ _ h => h) (Or.inl ⟨by rfl, ?_⟩) h0 ?_
  rotate_left 1
  · (intro w' hS; (try dsimp only at hS); (try simp only [List.getElem_toArray, List.getElem_cons_succ, List.getElem_cons_zero]); go_simp; (try with_reducible rfl))
  try simp only [Act.put, List.getElem_toArray, List.getElem_cons_succ, List.getElem_cons_zero, List.setIfInBounds_toArray, List.set_cons_zero, List.set_cons_succ]
  refine wpAnyU_take (i := 12) (v := ?_) rfl (by kernel_rfl) (by kernel_rfl) (by kernel_rfl) (by kernel_rfl) (fun _ _ _ h => h) (Or.inl ⟨by rfl, ?_⟩) h0 ?_
  rotate_left 1
  · (intro w' hS; (try dsimp only at hS); (try simp only [List.getElem_toArray, List.getElem_cons_succ, List.getElem_cons_zero]); go_simp; (try with_reducible rfl))
  try simp only [Act.put, List.getElem_toArray, List.getElem_cons_succ, List.getElem_cons_zero, List.setIfInBounds_toArray, List.set_cons_zero, List.set_cons_succ]
  refine wpAnyU_takeD [14, 15, 16, 17, 18, 19, 20, 21] (i := 13) (v := ?_) rfl (by kernel_rfl) (by kernel_rfl) (by kernel_rfl) (by kernel_rfl) (by kernel_rfl) (by kernel_rfl) (fun _ _ _ h => h) (Or.inl ⟨by rfl, ?_⟩) h0 ?_
  rotate_left 1
  · (intro w' hS; (try dsimp only at hS); (try simp only [List.getElem_toArray, List.getElem_cons_succ, List.getElem_cons_zero]); go_simp; (try with_reducible rfl))
  try simp only [Act.put, List.getElem_toArray, List.getElem_cons_succ, List.getElem_cons_zero, List.setIfInBounds_toArray, List.set_cons_zero, List.set_cons_succ]
  refine wpAnyU_all (rs := [7, 14]) (by kernel_rfl) (by simp) (fun i hi => ?_)
  simp only [List.mem_cons, List.not_mem_nil, or_false] at hi
  rcases hi with rfl | rfl
  · refine wpOpU_step rfl rfl (fun K hK => ?_)
    go_simp
    have D1 := Lib.hid (D0.out.box [.int .i64 who] 3)
    have h1 : (d0.alloc (.cells ([.int .i64 who] : List Value).toArray 3)).cell? ⟨q, 2, none⟩ = some (.slice oK KC.length cK) ∧ (d0.alloc (.cells ([.int .i64 who] : List Value).toArray 3)).cell? ⟨q, 4, none⟩ = some (.slice oC KC.length cC) ∧ (d0.alloc (.cells ([.int .i64 who] : List Value).toArray 3)).cell? ⟨B, 0, none⟩ = some (.int .i64 c.op) ∧ (d0.alloc (.cells ([.int .i64 who] : List Value).toArray 3)).cell? ⟨B, 1, none⟩ = some (.int .i64 c.flow) ∧ (d0.alloc (.cells ([.int .i64 who] : List Value).toArray 3)).cell? ⟨B, 2, none⟩ = some (.int .i64 c.a) ∧ (d0.alloc (.cells ([.int .i64 who] : List Value).toArray 3)).cell? ⟨B, 3, none⟩ = some (.int .i64 c.b) := ⟨(D1.out.rowm (k := q) (vs := [ptr x, .int .i64 W, .slice oK KC.length cK, vJ, .slice oC KC.length cC, vR]) (t := 59) (by simp)).cell rfl, (D1.out.rowm (k := q) (vs := [ptr x, .int .i64 W, .slice oK KC.length cK, vJ, .slice oC KC.length cC, vR]) (t := 59) (by simp)).cell rfl, (D1.out.rowm (k := B) (vs := [.int .i64 c.op, .int .i64 c.flow, .int .i64 c.a, .int .i64 c.b]) (t := 32) (by simp)).cell rfl, (D1.out.rowm (k := B) (vs := [.int .i64 c.op, .int .i64 c.flow, .int .i64 c.a, .int .i64 c.b]) (t := 32) (by simp)).cell rfl, (D1.out.rowm (k := B) (vs := [.int .i64 c.op, .int .i64 c.flow, .int .i64 c.a, .int .i64 c.b]) (t := 32) (by simp)).cell rfl, (D1.out.rowm (k := B) (vs := [.int .i64 c.op, .int .i64 c.flow, .int .i64 c.a, .int .i64 c.b]) (t := 32) (by simp)).cell rfl⟩
    refine hK _ _ ⟨fun _ => h1, ?_⟩
    clear hK K
    generalize d0.alloc (.cells ([.int .i64 who] : List Value).toArray 3) = d1 at D1 h1 ⊢
    generalize d0.heap.size = x1 at D1 ⊢
    try simp only [Act.put, List.getElem_toArray, List.getElem_cons_succ, List.getElem_cons_zero, List.setIfInBounds_toArray, List.set_cons_zero, List.set_cons_succ]
    refine wpAnyU_all (rs := [8, 14]) (by kernel_rfl) (by simp) (fun i hi => ?_)
    simp only [List.mem_cons, List.not_mem_nil, or_false] at hi
    rcases hi with rfl | rfl
    · refine wpOpU_step rfl rfl (fun K hK => ?_)
      refine wp_append_lies _ (.tmp 19) (.tmp 21) 52 rfl 0 3 i1 _ 1 8 Try.underlying52 hi1 hx0 hx1 hx2 rfl (by omega) (.slice oK KC.length cK) N (ikeys KC) rfl (D1.out.owned' 0 rfl) ⟨x1, 0, none⟩ 1 1 [.int .i64 who] rfl rfl (row_news (D1.out.rowm (k := x1) (vs := [.int .i64 who]) (t := 3) (by simp))) (by simp [Value.oneCell']) (by omega) (by unfold maxLen; omega) (by omega) (by omega) _ rfl ?_
      intro g2 p2 d2 own gro hat hlt
      have D2 := Lib.hid (Scope.appended (D1.out) own gro hat)
      have h2 : d2.cell? ⟨q, 2, none⟩ = some (.slice oK KC.length cK) ∧ d2.cell? ⟨q, 4, none⟩ = some (.slice oC KC.length cC) ∧ d2.cell? ⟨B, 0, none⟩ = some (.int .i64 c.op) ∧ d2.cell? ⟨B, 1, none⟩ = some (.int .i64 c.flow) ∧ d2.cell? ⟨B, 2, none⟩ = some (.int .i64 c.a) ∧ d2.cell? ⟨B, 3, none⟩ = some (.int .i64 c.b) := ⟨(D2.out.rowm (k := q) (vs := [ptr x, .int .i64 W, .slice oK KC.length cK, vJ, .slice oC KC.length cC, vR]) (t := 59) (by simp)).cell rfl, (D2.out.rowm (k := q) (vs := [ptr x, .int .i64 W, .slice oK KC.length cK, vJ, .slice oC KC.length cC, vR]) (t := 59) (by simp)).cell rfl, (D2.out.rowm (k := B) (vs := [.int .i64 c.op, .int .i64 c.flow, .int .i64 c.a, .int .i64 c.b]) (t := 32) (by simp)).cell rfl, (D2.out.rowm (k := B) (vs := [.int .i64 c.op, .int .i64 c.flow, .int .i64 c.a, .int .i64 c.b]) (t := 32) (by simp)).cell rfl, (D2.out.rowm (k := B) (vs := [.int .i64 c.op, .int .i64 c.flow, .int .i64 c.a, .int .i64 c.b]) (t := 32) (by simp)).cell rfl, (D2.out.rowm (k := B) (vs := [.int .i64 c.op, .int .i64 c.flow, .int .i64 c.a, .int .i64 c.b]) (t := 32) (by simp)).cell rfl⟩
      refine hK _ _ ⟨fun _ => h2, ?_⟩
      clear hK K own gro hat hlt
      try simp only [Act.put, List.getElem_toArray, List.getElem_cons_succ, List.getElem_cons_zero, List.setIfInBounds_toArray, List.set_cons_zero, List.set_cons_succ]
      refine wpAnyU_all (rs := [14]) (by kernel_rfl) (by simp) (fun i hi => ?_)
      obtain rfl : i = 14 := by simpa using hi
      refine wpOpU_step rfl rfl (fun K hK => ?_)
      go_simp
      have D3 := Lib.hid (D2.out.box [.int .i64 c.op, .int .i64 c.flow, .int .i64 c.a, .int .i64 c.b] 32)
      have h3 : (d2.alloc (.cells ([.int .i64 c.op, .int .i64 c.flow, .int .i64 c.a, .int .i64 c.b] : List Value).toArray 32)).cell? ⟨q, 2, none⟩ = some (.slice oK KC.length cK) ∧ (d2.alloc (.cells ([.int .i64 c.op, .int .i64 c.flow, .int .i64 c.a, .int .i64 c.b] : List Value).toArray 32)).cell? ⟨q, 4, none⟩ = some (.slice oC KC.length cC) ∧ (d2.alloc (.cells ([.int .i64 c.op, .int .i64 c.flow, .int .i64 c.a, .int .i64 c.b] : List Value).toArray 32)).cell? ⟨B, 0, none⟩ = some (.int .i64 c.op) ∧ (d2.alloc (.cells ([.int .i64 c.op, .int .i64 c.flow, .int .i64 c.a, .int .i64 c.b] : List Value).toArray 32)).cell? ⟨B, 1, none⟩ = some (.int .i64 c.flow) ∧ (d2.alloc (.cells ([.int .i64 c.op, .int .i64 c.flow, .int .i64 c.a, .int .i64 c.b] : List Value).toArray 32)).cell? ⟨B, 2, none⟩ = some (.int .i64 c.a) ∧ (d2.alloc (.cells ([.int .i64 c.op, .int .i64 c.flow, .int .i64 c.a, .int .i64 c.b] : List Value).toArray 32)).cell? ⟨B, 3, none⟩ = some (.int .i64 c.b) := ⟨(D3.out.rowm (k := q) (vs := [ptr x, .int .i64 W, .slice oK KC.length cK, vJ, .slice oC KC.length cC, vR]) (t := 59) (by simp)).cell rfl, (D3.out.rowm (k := q) (vs := [ptr x, .int .i64 W, .slice oK KC.length cK, vJ, .slice oC KC.length cC, vR]) (t := 59) (by simp)).cell rfl, (D3.out.rowm (k := B) (vs := [.int .i64 c.op, .int .i64 c.flow, .int .i64 c.a, .int .i64 c.b]) (t := 32) (by simp)).cell rfl, (D3.out.rowm (k := B) (vs := [.int .i64 c.op, .int .i64 c.flow, .int .i64 c.a, .int .i64 c.b]) (t := 32) (by simp)).cell rfl, (D3.out.rowm (k := B) (vs := [.int .i64 c.op, .int .i64 c.flow, .int .i64 c.a, .int .i64 c.b]) (t := 32) (by simp)).cell rfl, (D3.out.rowm (k := B) (vs := [.int .i64 c.op, .int .i64 c.flow, .int .i64 c.a, .int .i64 c.b]) (t := 32) (by simp)).cell rfl⟩
      refine hK _ _ ⟨fun _ => h3, ?_⟩
      clear hK K
      generalize d2.alloc (.cells ([.int .i64 c.op, .int .i64 c.flow, .int .i64 c.a, .int .i64 c.b] : List Value).toArray 32) = d3 at D3 h3 ⊢
      generalize d2.heap.size = x3 at D3 ⊢
      try simp only [Act.put, List.getElem_toArray, List.getElem_cons_succ, List.getElem_cons_zero, List.setIfInBounds_toArray, List.set_cons_zero, List.set_cons_succ]
      refine wpAnyU_all (rs := [15]) (by kernel_rfl) (by simp) (fun i hi => ?_)
      obtain rfl : i = 15 := by simpa using hi
      refine wpOpU_step rfl rfl (fun K hK => ?_)
      refine wp_append_lies _ (.tmp 26) (.tmp 28) 22 rfl 0 32 i2 _ 4 32 Try.underlying22 hi2 hy0 hy1 hy2 rfl (by omega) (.slice oC KC.length cC) N (cvals KC) rfl (D3.out.owned' 1 rfl) ⟨x3, 0, none⟩ 1 1 [.int .i64 c.op, .int .i64 c.flow, .int .i64 c.a, .int .i64 c.b] rfl rfl (row_news (D3.out.rowm (k := x3) (vs := [.int .i64 c.op, .int .i64 c.flow, .int .i64 c.a, .int .i64 c.b]) (t := 32) (by simp))) (by simp [Value.oneCell']) (by omega) (by unfold maxLen; omega) (by omega) (by omega) _ rfl ?_
      intro g4 p4 d4 own gro hat hlt
      have D4 := Lib.hid ((Scope.appended (D3.out.swap2) own gro hat).swap2)
      have h4 : d4.cell? ⟨q, 2, none⟩ = some (.slice oK KC.length cK) ∧ d4.cell? ⟨q, 4, none⟩ = some (.slice oC KC.length cC) ∧ d4.cell? ⟨B, 0, none⟩ = some (.int .i64 c.op) ∧ d4.cell? ⟨B, 1, none⟩ = some (.int .i64 c.flow) ∧ d4.cell? ⟨B, 2, none⟩ = some (.int .i64 c.a) ∧ d4.cell? ⟨B, 3, none⟩ = some (.int .i64 c.b) := ⟨(D4.out.rowm (k := q) (vs := [ptr x, .int .i64 W, .slice oK KC.length cK, vJ, .slice oC KC.length cC, vR]) (t := 59) (by simp)).cell rfl, (D4.out.rowm (k := q) (vs := [ptr x, .int .i64 W, .slice oK KC.length cK, vJ, .slice oC KC.length cC, vR]) (t := 59) (by simp)).cell rfl, (D4.out.rowm (k := B) (vs := [.int .i64 c.op, .int .i64 c.flow, .int .i64 c.a, .int .i64 c.b]) (t := 32) (by simp)).cell rfl, (D4.out.rowm (k := B) (vs := [.int .i64 c.op, .int .i64 c.flow, .int .i64 c.a, .int .i64 c.b]) (t := 32) (by simp)).cell rfl, (D4.out.rowm (k := B) (vs := [.int .i64 c.op, .int .i64 c.flow, .int .i64 c.a, .int .i64 c.b]) (t := 32) (by simp)).cell rfl, (D4.out.rowm (k := B) (vs := [.int .i64 c.op, .int .i64 c.flow, .int .i64 c.a, .int .i64 c.b]) (t := 32) (by simp)).cell rfl⟩
      refine hK _ _ ⟨fun _ => h4, ?_⟩
      clear hK K own gro hat hlt
      try simp only [Act.put, List.getElem_toArray, List.getElem_cons_succ, List.getElem_cons_zero, List.setIfInBounds_toArray, List.set_cons_zero, List.set_cons_succ]
      have rq := D4.out.rowm (k := q) (vs := [ptr x, .int .i64 W, .slice oK KC.length cK, vJ, .slice oC KC.length cC, vR]) (t := 59) (by simp)
      have fA := rq.free 2
      have fB := rq.free 4
      have zA : d4.cell? ⟨q, 2, none⟩ = some (.slice oK KC.length cK) := rq.cell rfl
      have zB : d4.cell? ⟨q, 4, none⟩ = some (.slice oC KC.length cC) := rq.cell rfl
      clear rq h4
      refine wpAnyU_rest _ _ _ _ (fun j hj => ?_) ?_
      · simp at hj; rcases hj with rfl | rfl | rfl | rfl | rfl | rfl | rfl <;> rfl
      refine wpAny_take (i := 16) (v := ?_) rfl (by kernel_rfl) (by kernel_rfl) (by kernel_rfl) (fun _ _ _ h => h) (Or.inl ⟨by rfl, ?_⟩) ?_
      rotate_left 1
      · (intro w'; (try simp only [List.getElem_toArray, List.getElem_cons_succ, List.getElem_cons_zero]); go_simp; (try with_reducible rfl))
      try simp only [Act.put, List.getElem_toArray, List.getElem_cons_succ, List.getElem_cons_zero, List.setIfInBounds_toArray, List.set_cons_zero, List.set_cons_succ]
      refine wpAny_take (i := 17) (v := ?_) rfl (by kernel_rfl) (by kernel_rfl) (by kernel_rfl) (fun _ _ _ h => h) (Or.inl ⟨by rfl, ?_⟩) ?_
      rotate_left 1
      · (intro w'; (try simp only [List.getElem_toArray, List.getElem_cons_succ, List.getElem_cons_zero]); go_simp; (try with_reducible rfl))
      try simp only [Act.put, List.getElem_toArray, List.getElem_cons_succ, List.getElem_cons_zero, List.setIfInBounds_toArray, List.set_cons_zero, List.set_cons_succ]
      refine wpAny_all (rs := [18]) (by kernel_rfl) (by simp) (fun i hi => ?_)
      obtain rfl : i = 18 := by simpa using hi
      refine wpOpU_stepG rfl (by rfl) (fun K hK => ?_)
      go_simp
      refine hK _ _ ?_
      clear hK K
      try simp only [Act.put, List.getElem_toArray, List.getElem_cons_succ, List.getElem_cons_zero, List.setIfInBounds_toArray, List.set_cons_zero, List.set_cons_succ]
      refine wpAny_take (i := 19) (v := ?_) rfl (by kernel_rfl) (by kernel_rfl) (by kernel_rfl) (fun _ _ _ h => h) (Or.inl ⟨by rfl, ?_⟩) ?_
      rotate_left 1
      · (intro w'; (try simp only [List.getElem_toArray, List.getElem_cons_succ, List.getElem_cons_zero]); go_simp; (try with_reducible rfl))
      try simp only [Act.put, List.getElem_toArray, List.getElem_cons_succ, List.getElem_cons_zero, List.setIfInBounds_toArray, List.set_cons_zero, List.set_cons_succ]
      refine wpAny_take (i := 20) (v := ?_) rfl (by kernel_rfl) (by kernel_rfl) (by kernel_rfl) (fun _ _ _ h => h) (Or.inl ⟨by rfl, ?_⟩) ?_
      rotate_left 1
      · (intro w'; (try simp only [List.getElem_toArray, List.getElem_cons_succ, List.getElem_cons_zero]); go_simp; (try with_reducible rfl))
      try simp only [Act.put, List.getElem_toArray, List.getElem_cons_succ, List.getElem_cons_zero, List.setIfInBounds_toArray, List.set_cons_zero, List.set_cons_succ]
      refine wpAny_all (rs := [21]) (by kernel_rfl) (by simp) (fun i hi => ?_)
      obtain rfl : i = 21 := by simpa using hi
      refine wpOpU_stepG rfl (by rfl) (fun K hK => ?_)
      go_simp
      refine hK _ _ ?_
      clear hK K
      try simp only [Act.put, List.getElem_toArray, List.getElem_cons_succ, List.getElem_cons_zero, List.setIfInBounds_toArray, List.set_cons_zero, List.set_cons_succ]
      refine wpAny_done (by kernel_rfl) ?_ _
      go_wp2
      go_end0
      exact rask_done D4.out HN.out
    · refine wpOpU_step rfl rfl (fun K hK => ?_)
      go_simp
      have D5 := Lib.hid (D1.out.box [.int .i64 c.op, .int .i64 c.flow, .int .i64 c.a, .int .i64 c.b] 32)
      have h5 : (d1.alloc (.cells ([.int .i64 c.op, .int .i64 c.flow, .int .i64 c.a, .int .i64 c.b] : List Value).toArray 32)).cell? ⟨q, 2, none⟩ = some (.slice oK KC.length cK) ∧ (d1.alloc (.cells ([.int .i64 c.op, .int .i64 c.flow, .int .i64 c.a, .int .i64 c.b] : List Value).toArray 32)).cell? ⟨q, 4, none⟩ = some (.slice oC KC.length cC) ∧ (d1.alloc (.cells ([.int .i64 c.op, .int .i64 c.flow, .int .i64 c.a, .int .i64 c.b] : List Value).toArray 32)).cell? ⟨B, 0, none⟩ = some (.int .i64 c.op) ∧ (d1.alloc (.cells ([.int .i64 c.op, .int .i64 c.flow, .int .i64 c.a, .int .i64 c.b] : List Value).toArray 32)).cell? ⟨B, 1, none⟩ = some (.int .i64 c.flow) ∧ (d1.alloc (.cells ([.int .i64 c.op, .int .i64 c.flow, .int .i64 c.a, .int .i64 c.b] : List Value).toArray 32)).cell? ⟨B, 2, none⟩ = some (.int .i64 c.a) ∧ (d1.alloc (.cells ([.int .i64 c.op, .int .i64 c.flow, .int .i64 c.a, .int .i64 c.b] : List Value).toArray 32)).cell? ⟨B, 3, none⟩ = some (.int .i64 c.b) := ⟨(D5.out.rowm (k := q) (vs := [ptr x, .int .i64 W, .slice oK KC.length cK, vJ, .slice oC KC.length cC, vR]) (t := 59) (by simp)).cell rfl, (D5.out.rowm (k := q) (vs := [ptr x, .int .i64 W, .slice oK KC.length cK, vJ, .slice oC KC.length cC, vR]) (t := 59) (by simp)).cell rfl, (D5.out.rowm (k := B) (vs := [.int .i64 c.op, .int .i64 c.flow, .int .i64 c.a, .int .i64 c.b]) (t := 32) (by simp)).cell rfl, (D5.out.rowm (k := B) (vs := [.int .i64 c.op, .int .i64 c.flow, .int .i64 c.a, .int .i64 c.b]) (t := 32) (by simp)).cell rfl, (D5.out.rowm (k := B) (vs := [.int .i64 c.op, .int .i64 c.flow, .int .i64 c.a, .int .i64 c.b]) (t := 32) (by simp)).cell rfl, (D5.out.rowm (k := B) (vs := [.int .i64 c.op, .int .i64 c.flow, .int .i64 c.a, .int .i64 c.b]) (t := 32) (by simp)).cell rfl⟩
      refine hK _ _ ⟨fun _ => h5, ?_⟩
      clear hK K
      generalize d1.alloc (.cells ([.int .i64 c.op, .int .i64 c.flow, .int .i64 c.a, .int .i64 c.b] : List Value).toArray 32) = d5 at D5 h5 ⊢
      generalize d1.heap.size = x5 at D5 ⊢
      try simp only [Act.put, List.getElem_toArray, List.getElem_cons_succ, List.getElem_cons_zero, List.setIfInBounds_toArray, List.set_cons_zero, List.set_cons_succ]
      refine wpAnyU_all (rs := [8]) (by kernel_rfl) (by simp) (fun i hi => ?_)
      obtain rfl : i = 8 := by simpa using hi
      refine wpOpU_step rfl rfl (fun K hK => ?_)
      refine wp_append_lies _ (.tmp 19) (.tmp 21) 52 rfl 0 3 i1 _ 1 8 Try.underlying52 hi1 hx0 hx1 hx2 rfl (by omega) (.slice oK KC.length cK) N (ikeys KC) rfl (D5.out.owned' 0 rfl) ⟨x1, 0, none⟩ 1 1 [.int .i64 who] rfl rfl (row_news (D5.out.rowm (k := x1) (vs := [.int .i64 who]) (t := 3) (by simp))) (by simp [Value.oneCell']) (by omega) (by unfold maxLen; omega) (by omega) (by omega) _ rfl ?_
      intro g6 p6 d6 own gro hat hlt
      have D6 := Lib.hid (Scope.appended (D5.out) own gro hat)
      have h6 : d6.cell? ⟨q, 2, none⟩ = some (.slice oK KC.length cK) ∧ d6.cell? ⟨q, 4, none⟩ = some (.slice oC KC.length cC) ∧ d6.cell? ⟨B, 0, none⟩ = some (.int .i64 c.op) ∧ d6.cell? ⟨B, 1, none⟩ = some (.int .i64 c.flow) ∧ d6.cell? ⟨B, 2, none⟩ = some (.int .i64 c.a) ∧ d6.cell? ⟨B, 3, none⟩ = some (.int .i64 c.b) := ⟨(D6.out.rowm (k := q) (vs := [ptr x, .int .i64 W, .slice oK KC.length cK, vJ, .slice oC KC.length cC, vR]) (t := 59) (by simp)).cell rfl, (D6.out.rowm (k := q) (vs := [ptr x, .int .i64 W, .slice oK KC.length cK, vJ, .slice oC KC.length cC, vR]) (t := 59) (by simp)).cell rfl, (D6.out.rowm (k := B) (vs := [.int .i64 c.op, .int .i64 c.flow, .int .i64 c.a, .int .i64 c.b]) (t := 32) (by simp)).cell rfl, (D6.out.rowm (k := B) (vs := [.int .i64 c.op, .int .i64 c.flow, .int .i64 c.a, .int .i64 c.b]) (t := 32) (by simp)).cell rfl, (D6.out.rowm (k := B) (vs := [.int .i64 c.op, .int .i64 c.flow, .int .i64 c.a, .int .i64 c.b]) (t := 32) (by simp)).cell rfl, (D6.out.rowm (k := B) (vs := [.int .i64 c.op, .int .i64 c.flow, .int .i64 c.a, .int .i64 c.b]) (t := 32) (by simp)).cell rfl⟩
      refine hK _ _ ⟨fun _ => h6, ?_⟩
      clear hK K own gro hat hlt
      try simp only [Act.put, List.getElem_toArray, List.getElem_cons_succ, List.getElem_cons_zero, List.setIfInBounds_toArray, List.set_cons_zero, List.set_cons_succ]
      refine wpAnyU_all (rs := [15]) (by kernel_rfl) (by simp) (fun i hi => ?_)
      obtain rfl : i = 15 := by simpa using hi
      refine wpOpU_step rfl rfl (fun K hK => ?_)
      refine wp_append_lies _ (.tmp 26) (.tmp 28) 22 rfl 0 32 i2 _ 4 32 Try.underlying22 hi2 hy0 hy1 hy2 rfl (by omega) (.slice oC KC.length cC) N (cvals KC) rfl (D6.out.owned' 1 rfl) ⟨x5, 0, none⟩ 1 1 [.int .i64 c.op, .int .i64 c.flow, .int .i64 c.a, .int .i64 c.b] rfl rfl (row_news (D6.out.rowm (k := x5) (vs := [.int .i64 c.op, .int .i64 c.flow, .int .i64 c.a, .int .i64 c.b]) (t := 32) (by simp))) (by simp [Value.oneCell']) (by omega) (by unfold maxLen; omega) (by omega) (by omega) _ rfl ?_
      intro g7 p7 d7 own gro hat hlt
      have D7 := Lib.hid ((Scope.appended (D6.out.swap2) own gro hat).swap2)
      have h7 : d7.cell? ⟨q, 2, none⟩ = some (.slice oK KC.length cK) ∧ d7.cell? ⟨q, 4, none⟩ = some (.slice oC KC.length cC) ∧ d7.cell? ⟨B, 0, none⟩ = some (.int .i64 c.op) ∧ d7.cell? ⟨B, 1, none⟩ = some (.int .i64 c.flow) ∧ d7.cell? ⟨B, 2, none⟩ = some (.int .i64 c.a) ∧ d7.cell? ⟨B, 3, none⟩ = some (.int .i64 c.b) := ⟨(D7.out.rowm (k := q) (vs := [ptr x, .int .i64 W, .slice oK KC.length cK, vJ, .slice oC KC.length cC, vR]) (t := 59) (by simp)).cell rfl, (D7.out.rowm (k := q) (vs := [ptr x, .int .i64 W, .slice oK KC.length cK, vJ, .slice oC KC.length cC, vR]) (t := 59) (by simp)).cell rfl, (D7.out.rowm (k := B) (vs := [.int .i64 c.op, .int .i64 c.flow, .int .i64 c.a, .int .i64 c.b]) (t := 32) (by simp)).cell rfl, (D7.out.rowm (k := B) (vs := [.int .i64 c.op, .int .i64 c.flow, .int .i64 c.a, .int .i64 c.b]) (t := 32) (by simp)).cell rfl, (D7.out.rowm (k := B) (vs := [.int .i64 c.op, .int .i64 c.flow, .int .i64 c.a, .int .i64 c.b]) (t := 32) (by simp)).cell rfl, (D7.out.rowm (k := B) (vs := [.int .i64 c.op, .int .i64 c.flow, .int .i64 c.a, .int .i64 c.b]) (t := 32) (by simp)).cell rfl⟩
      refine hK _ _ ⟨fun _ => h7, ?_⟩
      clear hK K own gro hat hlt
      try simp only [Act.put, List.getElem_toArray, List.getElem_cons_succ, List.getElem_cons_zero, List.setIfInBounds_toArray, List.set_cons_zero, List.set_cons_succ]
      have rq := D7.out.rowm (k := q) (vs := [ptr x, .int .i64 W, .slice oK KC.length cK, vJ, .slice oC KC.length cC, vR]) (t := 59) (by simp)
      have fA := rq.free 2
      have fB := rq.free 4
      have zA : d7.cell? ⟨q, 2, none⟩ = some (.slice oK KC.length cK) := rq.cell rfl
      have zB : d7.cell? ⟨q, 4, none⟩ = some (.slice oC KC.length cC) := rq.cell rfl
      clear rq h7
      refine wpAnyU_rest _ _ _ _ (fun j hj => ?_) ?_
      · simp at hj; rcases hj with rfl | rfl | rfl | rfl | rfl | rfl | rfl <;> rfl
      refine wpAny_take (i := 16) (v := ?_) rfl (by kernel_rfl) (by kernel_rfl) (by kernel_rfl) (fun _ _ _ h => h) (Or.inl ⟨by rfl, ?_⟩) ?_
      rotate_left 1
      · (intro w'; (try simp only [List.getElem_toArray, List.getElem_cons_succ, List.getElem_cons_zero]); go_simp; (try with_reducible rfl))
      try simp only [Act.put, List.getElem_toArray, List.getElem_cons_succ, List.getElem_cons_zero, List.setIfInBounds_toArray, List.set_cons_zero, List.set_cons_succ]
      refine wpAny_take (i := 17) (v := ?_) rfl (by kernel_rfl) (by kernel_rfl) (by kernel_rfl) (fun _ _ _ h => h) (Or.inl ⟨by rfl, ?_⟩) ?_
      rotate_left 1
      · (intro w'; (try simp only [List.getElem_toArray, List.getElem_cons_succ, List.getElem_cons_zero]); go_simp; (try with_reducible rfl))
      try simp only [Act.put, List.getElem_toArray, List.getElem_cons_succ, List.getElem_cons_zero, List.setIfInBounds_toArray, List.set_cons_zero, List.set_cons_succ]
      refine wpAny_all (rs := [18]) (by kernel_rfl) (by simp) (fun i hi => ?_)
      obtain rfl : i = 18 := by simpa using hi
      refine wpOpU_stepG rfl (by rfl) (fun K hK => ?_)
      go_simp
      refine hK _ _ ?_
      clear hK K
      try simp only [Act.put, List.getElem_toArray, List.getElem_cons_succ, List.getElem_cons_zero, List.setIfInBounds_toArray, List.set_cons_zero, List.set_cons_succ]
      refine wpAny_take (i := 19) (v := ?_) rfl (by kernel_rfl) (by kernel_rfl) (by kernel_rfl) (fun _ _ _ h => h) (Or.inl ⟨by rfl, ?_⟩) ?_
      rotate_left 1
      · (intro w'; (try simp only [List.getElem_toArray, List.getElem_cons_succ, List.getElem_cons_zero]); go_simp; (try with_reducible rfl))
      try simp only [Act.put, List.getElem_toArray, List.getElem_cons_succ, List.getElem_cons_zero, List.setIfInBounds_toArray, List.set_cons_zero, List.set_cons_succ]
      refine wpAny_take (i := 20) (v := ?_) rfl (by kernel_rfl) (by kernel_rfl) (by kernel_rfl) (fun _ _ _ h => h) (Or.inl ⟨by rfl, ?_⟩) ?_
      rotate_left 1
      · (intro w'; (try simp only [List.getElem_toArray, List.getElem_cons_succ, List.getElem_cons_zero]); go_simp; (try with_reducible rfl))
      try simp only [Act.put, List.getElem_toArray, List.getElem_cons_succ, List.getElem_cons_zero, List.setIfInBounds_toArray, List.set_cons_zero, List.set_cons_succ]
      refine wpAny_all (rs := [21]) (by kernel_rfl) (by simp) (fun i hi => ?_)
      obtain rfl : i = 21 := by simpa using hi
      refine wpOpU_stepG rfl (by rfl) (fun K hK => ?_)
      go_simp
      refine hK _ _ ?_
      clear hK K
      try simp only [Act.put, List.getElem_toArray, List.getElem_cons_succ, List.getElem_cons_zero, List.setIfInBounds_toArray, List.set_cons_zero, List.set_cons_succ]
      refine wpAny_done (by kernel_rfl) ?_ _
      go_wp2
      go_end0
      exact rask_done D7.out HN.out
  · refine wpOpU_step rfl rfl (fun K hK => ?_)
    go_simp
    have D8 := Lib.hid (D0.out.box [.int .i64 c.op, .int .i64 c.flow, .int .i64 c.a, .int .i64 c.b] 32)
    have h8 : (d0.alloc (.cells ([.int .i64 c.op, .int .i64 c.flow, .int .i64 c.a, .int .i64 c.b] : List Value).toArray 32)).cell? ⟨q, 2, none⟩ = some (.slice oK KC.length cK) ∧ (d0.alloc (.cells ([.int .i64 c.op, .int .i64 c.flow, .int .i64 c.a, .int .i64 c.b] : List Value).toArray 32)).cell? ⟨q, 4, none⟩ = some (.slice oC KC.length cC) ∧ (d0.alloc (.cells ([.int .i64 c.op, .int .i64 c.flow, .int .i64 c.a, .int .i64 c.b] : List Value).toArray 32)).cell? ⟨B, 0, none⟩ = some (.int .i64 c.op) ∧ (d0.alloc (.cells ([.int .i64 c.op, .int .i64 c.flow, .int .i64 c.a, .int .i64 c.b] : List Value).toArray 32)).cell? ⟨B, 1, none⟩ = some (.int .i64 c.flow) ∧ (d0.alloc (.cells ([.int .i64 c.op, .int .i64 c.flow, .int .i64 c.a, .int .i64 c.b] : List Value).toArray 32)).cell? ⟨B, 2, none⟩ = some (.int .i64 c.a) ∧ (d0.alloc (.cells ([.int .i64 c.op, .int .i64 c.flow, .int .i64 c.a, .int .i64 c.b] : List Value).toArray 32)).cell? ⟨B, 3, none⟩ = some (.int .i64 c.b) := ⟨(D8.out.rowm (k := q) (vs := [ptr x, .int .i64 W, .slice oK KC.length cK, vJ, .slice oC KC.length cC, vR]) (t := 59) (by simp)).cell rfl, (D8.out.rowm (k := q) (vs := [ptr x, .int .i64 W, .slice oK KC.length cK, vJ, .slice oC KC.length cC, vR]) (t := 59) (by simp)).cell rfl, (D8.out.rowm (k := B) (vs := [.int .i64 c.op, .int .i64 c.flow, .int .i64 c.a, .int .i64 c.b]) (t := 32) (by simp)).cell rfl, (D8.out.rowm (k := B) (vs := [.int .i64 c.op, .int .i64 c.flow, .int .i64 c.a, .int .i64 c.b]) (t := 32) (by simp)).cell rfl, (D8.out.rowm (k := B) (vs := [.int .i64 c.op, .int .i64 c.flow, .int .i64 c.a, .int .i64 c.b]) (t := 32) (by simp)).cell rfl, (D8.out.rowm (k := B) (vs := [.int .i64 c.op, .int .i64 c.flow, .int .i64 c.a, .int .i64 c.b]) (t := 32) (by simp)).cell rfl⟩
    refine hK _ _ ⟨fun _ => h8, ?_⟩
    clear hK K
    generalize d0.alloc (.cells ([.int .i64 c.op, .int .i64 c.flow, .int .i64 c.a, .int .i64 c.b] : List Value).toArray 32) = d8 at D8 h8 ⊢
    generalize d0.heap.size = x8 at D8 ⊢
    try simp only [Act.put, List.getElem_toArray, List.getElem_cons_succ, List.getElem_cons_zero, List.setIfInBounds_toArray, List.set_cons_zero, List.set_cons_succ]
    refine wpAnyU_all (rs := [7]) (by kernel_rfl) (by simp) (fun i hi => ?_)
    obtain rfl : i = 7 := by simpa using hi
    refine wpOpU_step rfl rfl (fun K hK => ?_)
    go_simp
    have D9 := Lib.hid (D8.out.box [.int .i64 who] 3)
    have h9 : (d8.alloc (.cells ([.int .i64 who] : List Value).toArray 3)).cell? ⟨q, 2, none⟩ = some (.slice oK KC.length cK) ∧ (d8.alloc (.cells ([.int .i64 who] : List Value).toArray 3)).cell? ⟨q, 4, none⟩ = some (.slice oC KC.length cC) ∧ (d8.alloc (.cells ([.int .i64 who] : List Value).toArray 3)).cell? ⟨B, 0, none⟩ = some (.int .i64 c.op) ∧ (d8.alloc (.cells ([.int .i64 who] : List Value).toArray 3)).cell? ⟨B, 1, none⟩ = some (.int .i64 c.flow) ∧ (d8.alloc (.cells ([.int .i64 who] : List Value).toArray 3)).cell? ⟨B, 2, none⟩ = some (.int .i64 c.a) ∧ (d8.alloc (.cells ([.int .i64 who] : List Value).toArray 3)).cell? ⟨B, 3, none⟩ = some (.int .i64 c.b) := ⟨(D9.out.rowm (k := q) (vs := [ptr x, .int .i64 W, .slice oK KC.length cK, vJ, .slice oC KC.length cC, vR]) (t := 59) (by simp)).cell rfl, (D9.out.rowm (k := q) (vs := [ptr x, .int .i64 W, .slice oK KC.length cK, vJ, .slice oC KC.length cC, vR]) (t := 59) (by simp)).cell rfl, (D9.out.rowm (k := B) (vs := [.int .i64 c.op, .int .i64 c.flow, .int .i64 c.a, .int .i64 c.b]) (t := 32) (by simp)).cell rfl, (D9.out.rowm (k := B) (vs := [.int .i64 c.op, .int .i64 c.flow, .int .i64 c.a, .int .i64 c.b]) (t := 32) (by simp)).cell rfl, (D9.out.rowm (k := B) (vs := [.int .i64 c.op, .int .i64 c.flow, .int .i64 c.a, .int .i64 c.b]) (t := 32) (by simp)).cell rfl, (D9.out.rowm (k := B) (vs := [.int .i64 c.op, .int .i64 c.flow, .int .i64 c.a, .int .i64 c.b]) (t := 32) (by simp)).cell rfl⟩
    refine hK _ _ ⟨fun _ => h9, ?_⟩
    clear hK K
    generalize d8.alloc (.cells ([.int .i64 who] : List Value).toArray 3) = d9 at D9 h9 ⊢
    generalize d8.heap.size = x9 at D9 ⊢
    try simp only [Act.put, List.getElem_toArray, List.getElem_cons_succ, List.getElem_cons_zero, List.setIfInBounds_toArray, List.set_cons_zero, List.set_cons_succ]
    refine wpAnyU_all (rs := [8]) (by kernel_rfl) (by simp) (fun i hi => ?_)
    obtain rfl : i = 8 := by simpa using hi
    refine wpOpU_step rfl rfl (fun K hK => ?_)
    refine wp_append_lies _ (.tmp 19) (.tmp 21) 52 rfl 0 3 i1 _ 1 8 Try.underlying52 hi1 hx0 hx1 hx2 rfl (by omega) (.slice oK KC.length cK) N (ikeys KC) rfl (D9.out.owned' 0 rfl) ⟨x9, 0, none⟩ 1 1 [.int .i64 who] rfl rfl (row_news (D9.out.rowm (k := x9) (vs := [.int .i64 who]) (t := 3) (by simp))) (by simp [Value.oneCell']) (by omega) (by unfold maxLen; omega) (by omega) (by omega) _ rfl ?_
    intro g10 p10 d10 own gro hat hlt
    have D10 := Lib.hid (Scope.appended (D9.out) own gro hat)
    have h10 : d10.cell? ⟨q, 2, none⟩ = some (.slice oK KC.length cK) ∧ d10.cell? ⟨q, 4, none⟩ = some (.slice oC KC.length cC) ∧ d10.cell? ⟨B, 0, none⟩ = some (.int .i64 c.op) ∧ d10.cell? ⟨B, 1, none⟩ = some (.int .i64 c.flow) ∧ d10.cell? ⟨B, 2, none⟩ = some (.int .i64 c.a) ∧ d10.cell? ⟨B, 3, none⟩ = some (.int .i64 c.b) := ⟨(D10.out.rowm (k := q) (vs := [ptr x, .int .i64 W, .slice oK KC.length cK, vJ, .slice oC KC.length cC, vR]) (t := 59) (by simp)).cell rfl, (D10.out.rowm (k := q) (vs := [ptr x, .int .i64 W, .slice oK KC.length cK, vJ, .slice oC KC.length cC, vR]) (t := 59) (by simp)).cell rfl, (D10.out.rowm (k := B) (vs := [.int .i64 c.op, .int .i64 c.flow, .int .i64 c.a, .int .i64 c.b]) (t := 32) (by simp)).cell rfl, (D10.out.rowm (k := B) (vs := [.int .i64 c.op, .int .i64 c.flow, .int .i64 c.a, .int .i64 c.b]) (t := 32) (by simp)).cell rfl, (D10.out.rowm (k := B) (vs := [.int .i64 c.op, .int .i64 c.flow, .int .i64 c.a, .int .i64 c.b]) (t := 32) (by simp)).cell rfl, (D10.out.rowm (k := B) (vs := [.int .i64 c.op, .int .i64 c.flow, .int .i64 c.a, .int .i64 c.b]) (t := 32) (by simp)).cell rfl⟩
    refine hK _ _ ⟨fun _ => h10, ?_⟩
    clear hK K own gro hat hlt
    try simp only [Act.put, List.getElem_toArray, List.getElem_cons_succ, List.getElem_cons_zero, List.setIfInBounds_toArray, List.set_cons_zero, List.set_cons_succ]
    refine wpAnyU_all (rs := [15]) (by kernel_rfl) (by simp) (fun i hi => ?_)
    obtain rfl : i = 15 := by simpa using hi
    refine wpOpU_step rfl rfl (fun K hK => ?_)
    refine wp_append_lies _ (.tmp 26) (.tmp 28) 22 rfl 0 32 i2 _ 4 32 Try.underlying22 hi2 hy0 hy1 hy2 rfl (by omega) (.slice oC KC.length cC) N (cvals KC) rfl (D10.out.owned' 1 rfl) ⟨x8, 0, none⟩ 1 1 [.int .i64 c.op, .int .i64 c.flow, .int .i64 c.a, .int .i64 c.b] rfl rfl (row_news (D10.out.rowm (k := x8) (vs := [.int .i64 c.op, .int .i64 c.flow, .int .i64 c.a, .int .i64 c.b]) (t := 32) (by simp))) (by simp [Value.oneCell']) (by omega) (by unfold maxLen; omega) (by omega) (by omega) _ rfl ?_
    intro g11 p11 d11 own gro hat hlt
    have D11 := Lib.hid ((Scope.appended (D10.out.swap2) own gro hat).swap2)
    have h11 : d11.cell? ⟨q, 2, none⟩ = some (.slice oK KC.length cK) ∧ d11.cell? ⟨q, 4, none⟩ = some (.slice oC KC.length cC) ∧ d11.cell? ⟨B, 0, none⟩ = some (.int .i64 c.op) ∧ d11.cell? ⟨B, 1, none⟩ = some (.int .i64 c.flow) ∧ d11.cell? ⟨B, 2, none⟩ = some (.int .i64 c.a) ∧ d11.cell? ⟨B, 3, none⟩ = some (.int .i64 c.b) := ⟨(D11.out.rowm (k := q) (vs := [ptr x, .int .i64 W, .slice oK KC.length cK, vJ, .slice oC KC.length cC, vR]) (t := 59) (by simp)).cell rfl, (D11.out.rowm (k := q) (vs := [ptr x, .int .i64 W, .slice oK KC.length cK, vJ, .slice oC KC.length cC, vR]) (t := 59) (by simp)).cell rfl, (D11.out.rowm (k := B) (vs := [.int .i64 c.op, .int .i64 c.flow, .int .i64 c.a, .int .i64 c.b]) (t := 32) (by simp)).cell rfl, (D11.out.rowm (k := B) (vs := [.int .i64 c.op, .int .i64 c.flow, .int .i64 c.a, .int .i64 c.b]) (t := 32) (by simp)).cell rfl, (D11.out.rowm (k := B) (vs := [.int .i64 c.op, .int .i64 c.flow, .int .i64 c.a, .int .i64 c.b]) (t := 32) (by simp)).cell rfl, (D11.out.rowm (k := B) (vs := [.int .i64 c.op, .int .i64 c.flow, .int .i64 c.a, .int .i64 c.b]) (t := 32) (by simp)).cell rfl⟩
    refine hK _ _ ⟨fun _ => h11, ?_⟩
    clear hK K own gro hat hlt
    try simp only [Act.put, List.getElem_toArray, List.getElem_cons_succ, List.getElem_cons_zero, List.setIfInBounds_toArray, List.set_cons_zero, List.set_cons_succ]
    have rq := D11.out.rowm (k := q) (vs := [ptr x, .int .i64 W, .slice oK KC.length cK, vJ, .slice oC KC.length cC, vR]) (t := 59) (by simp)
    have fA := rq.free 2
    have fB := rq.free 4
    have zA : d11.cell? ⟨q, 2, none⟩ = some (.slice oK KC.length cK) := rq.cell rfl
    have zB : d11.cell? ⟨q, 4, none⟩ = some (.slice oC KC.length cC) := rq.cell rfl
    clear rq h11
    refine wpAnyU_rest _ _ _ _ (fun j hj => ?_) ?_
    · simp at hj; rcases hj with rfl | rfl | rfl | rfl | rfl | rfl | rfl <;> rfl
    refine wpAny_take (i := 16) (v := ?_) rfl (by kernel_rfl) (by kernel_rfl) (by kernel_rfl) (fun _ _ _ h => h) (Or.inl ⟨by rfl, ?_⟩) ?_
    rotate_left 1
    · (intro w'; (try simp only [List.getElem_toArray, List.getElem_cons_succ, List.getElem_cons_zero]); go_simp; (try with_reducible rfl))
    try simp only [Act.put, List.getElem_toArray, List.getElem_cons_succ, List.getElem_cons_zero, List.setIfInBounds_toArray, List.set_cons_zero, List.set_cons_succ]
    refine wpAny_take (i := 17) (v := ?_) rfl (by kernel_rfl) (by kernel_rfl) (by kernel_rfl) (fun _ _ _ h => h) (Or.inl ⟨by rfl, ?_⟩) ?_
    rotate_left 1
    · (intro w'; (try simp only [List.getElem_toArray, List.getElem_cons_succ, List.getElem_cons_zero]); go_simp; (try with_reducible rfl))
    try simp only [Act.put, List.getElem_toArray, List.getElem_cons_succ, List.getElem_cons_zero, List.setIfInBounds_toArray, List.set_cons_zero, List.set_cons_succ]
    refine wpAny_all (rs := [18]) (by kernel_rfl) (by simp) (fun i hi => ?_)
    obtain rfl : i = 18 := by simpa using hi
    refine wpOpU_stepG rfl (by rfl) (fun K hK => ?_)
    go_simp
    refine hK _ _ ?_
    clear hK K
    try simp only [Act.put, List.getElem_toArray, List.getElem_cons_succ, List.getElem_cons_zero, List.setIfInBounds_toArray, List.set_cons_zero, List.set_cons_succ]
    refine wpAny_take (i := 19) (v := ?_) rfl (by kernel_rfl) (by kernel_rfl) (by kernel_rfl) (fun _ _ _ h => h) (Or.inl ⟨by rfl, ?_⟩) ?_
    rotate_left 1
    · (intro w'; (try simp only [List.getElem_toArray, List.getElem_cons_succ, List.getElem_cons_zero]); go_simp; (try with_reducible rfl))
    try simp only [Act.put, List.getElem_toArray, List.getElem_cons_succ, List.getElem_cons_zero, List.setIfInBounds_toArray, List.set_cons_zero, List.set_cons_succ]
    refine wpAny_take (i := 20) (v := ?_) rfl (by kernel_rfl) (by kernel_rfl) (by kernel_rfl) (fun _ _ _ h => h) (Or.inl ⟨by rfl, ?_⟩) ?_
    rotate_left 1
    · (intro w'; (try simp only [List.getElem_toArray, List.getElem_cons_succ, List.getElem_cons_zero]); go_simp; (try with_reducible rfl))
    try simp only [Act.put, List.getElem_toArray, List.getElem_cons_succ, List.getElem_cons_zero, List.setIfInBounds_toArray, List.set_cons_zero, List.set_cons_succ]
    refine wpAny_all (rs := [21]) (by kernel_rfl) (by simp) (fun i hi => ?_)
    obtain rfl : i = 21 := by simpa using hi
    refine wpOpU_stepG rfl (by rfl) (fun K hK => ?_)
    go_simp
    refine hK _ _ ?_
    clear hK K
    try simp only [Act.put, List.getElem_toArray, List.getElem_cons_succ, List.getElem_cons_zero, List.setIfInBounds_toArray, List.set_cons_zero, List.set_cons_succ]
    refine wpAny_done (by kernel_rfl) ?_ _
    go_wp2
    go_end0
    exact rask_done D11.out HN.out
end
end Go.Proofs.Ytjipjhmcpjffcac
