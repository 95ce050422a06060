/- The methods of package post: what they do to the memory under them, to the asks and to the results. -/
import Derived.Test.YtjipjhmcpjffcacArgsP
set_option linter.unusedSimpArgs false
set_option linter.unusedVariables false
set_option maxRecDepth 20000
namespace Go.Proofs.Ytjipjhmcpjffcac
open Go Go.RowKit Go.Maps

theorem lawInt : Keyed Try.prog 3 := int_keyed Try.underlying3
theorem keyOf_int {n : Int} (h : I64 n) : ∃ l, keyOf Try.prog 3 (.int .i64 n) = some l := ⟨_, keyOf_int_mk Try.underlying3 (wf_i h)⟩
theorem zeroCall (w : World) : (zeroValue 32).run Try.prog w = .ok Cl.zero.val w := by kernel_rfl
theorem zeroResult (w : World) : (zeroValue 95).run Try.prog w = .ok (Rt.zero.val (.slice none 0 0)) w := by kernel_rfl
/-- What stands last under a number. -/
def lastOf {α : Type} (z : α) (l : List (Int × α)) (o : Int) : α := l.foldl (fun a x => if x.1 = o then x.2 else a) z
theorem lastOf_snoc {α : Type} (z : α) (l : List (Int × α)) (k : Int) (c : α) (o : Int) : lastOf z (l ++ [(k, c)]) o = if k = o then c else lastOf z l o := by simp [lastOf]
theorem lastOf_all {α : Type} (p : α → Prop) (z : α) (hz : p z) (l : List (Int × α)) (h : ∀ x, x ∈ l → p x.2) (o : Int) : p (lastOf z l o) := by
  unfold lastOf
  induction l generalizing z with
  | nil => exact hz
  | cons y l ih =>
    simp only [List.foldl_cons]
    refine ih _ ?_ (fun x hx => h x (by simp [hx]))
    split
    · exact h y (by simp)
    · exact hz
/-- The asks' map. -/
def askA (b : Nat) (KC : List (Int × Cl)) : HA where
  holds w fp := (∃ n f, MapIs Try.prog 3 w b n f ∧ ∀ o, I64 o → (f (.int .i64 o)).getD Cl.zero.val = (lastOf Cl.zero KC o).val) ∧ fp = [b]
  lt := by rintro w fp ⟨⟨n, f, h, _⟩, rfl⟩ k hk; simp at hk; subst hk; exact h.lt
  chg := by rintro w w' S fp ⟨⟨n, f, h, h2⟩, rfl⟩ c hn; exact ⟨⟨n, f, h.chg c (hn _ (by simp)), h2⟩, rfl⟩
/-- The results' map: F tells each one's slice. -/
def resB (b : Nat) (F : Int → Value) (JR : List (Int × Rt)) : HA where
  holds w fp := b ∈ fp ∧ (∀ k, k ∈ fp → k < w.heap.size) ∧ (∃ n f, MapIs Try.prog 3 w b n f ∧ ∀ o, I64 o → (f (.int .i64 o)).getD (Rt.zero.val (.slice none 0 0)) = (lastOf Rt.zero JR o).val (F o)) ∧
    (∀ o, I64 o → few' (lastOf Rt.zero JR o).pk ∧ w.ownsRow 0 48 3 (F o) (lastOf Rt.zero JR o).pk.length (pks (lastOf Rt.zero JR o).pk) ∧ ∀ k, (F o).ownBlock = some k → k ∈ fp)
  lt := by rintro w fp ⟨_, h, _⟩ k hk; exact h k hk
  chg := by
    rintro w w' S fp ⟨h1, h2, ⟨n, f, h3, h4⟩, h5⟩ c hn
    refine ⟨h1, fun k hk => Nat.lt_of_lt_of_le (h2 k hk) c.size, ⟨n, f, h3.chg c (hn _ h1), h4⟩, fun o ho => ?_⟩
    obtain ⟨q1, q2, q3⟩ := h5 o ho
    exact ⟨q1, ownsRow_chg q2 c (fun k hk => hn k (q3 k hk)), q3⟩
/-- A thing that is one of several. -/
def exA {α : Type} (F : α → HA) : HA where
  holds w fp := ∃ a, (F a).holds w fp
  lt := fun ⟨a, h⟩ => (F a).lt h
  chg := fun ⟨a, h⟩ c hn => ⟨a, (F a).chg h c hn⟩
theorem Scope.exo {α : Type} {F : α → HA} {S : List Nat} {w0 w : World} {Bs : List HA} (h : Scope S w0 w (exA F :: Bs)) : ∃ a, Scope S w0 w (F a :: Bs) := by
  obtain ⟨c, fp, ⟨f, g, ⟨a, h1⟩, h2, h3, h4⟩, h5⟩ := h
  exact ⟨a, c, fp, ⟨f, g, h1, h2, h3, h4⟩, h5⟩
theorem Scope.exi {α : Type} {F : α → HA} (a : α) {S : List Nat} {w0 w : World} {Bs : List HA} (h : Scope S w0 w (F a :: Bs)) : Scope S w0 w (exA F :: Bs) := by
  obtain ⟨c, fp, ⟨f, g, h1, h2, h3, h4⟩, h5⟩ := h
  exact ⟨c, fp, ⟨f, g, ⟨a, h1⟩, h2, h3, h4⟩, h5⟩
/-- What is done to each is done to it. -/
theorem Does.ex {P : Program} {α : Type} {F G : α → HA} {f : FuncId} {args : Array Value} {r : Value} (d : ∀ a, Does P [F a] f args r [G a]) : Does P [exA F] f args r [exA G] := fun w fp h => by
  obtain ⟨a, h1⟩ := stars_one h
  exact (d a w fp (stars_mk1 h1)).mono fun _ _ ⟨he, fp', h2, h3⟩ => ⟨he, fp', stars_mk1 (A := exA G) ⟨a, stars_one h2⟩, h3⟩
@[reducible] def postL (p m ba br : Nat) (W : Int) (σ : MS) (KC : List (Int × Cl)) (JR : List (Int × Rt)) (F : Int → Value) : List HA := [memA m σ, box p [ptr m, .int .i64 W, .map (some ba), .map (some br)] 88, askA ba KC, resB br F JR]
/-- A post: its memory, its own block, its two maps. -/
@[reducible] def postA (p m ba br : Nat) (W : Int) (σ : MS) (KC : List (Int × Cl)) (JR : List (Int × Rt)) : HA := exA fun F => stars (postL p m ba br W σ KC JR F)
@[reducible] def argL (j : Int) : Lc := ⟨6, j, 0⟩
@[reducible] def resL (j : Int) : Lc := ⟨7, j, 0⟩
@[reducible] def reqL (j : Int) : Lc := ⟨5, j, 0⟩
@[reducible] def lockL : Lc := ⟨1, 0, 0⟩
theorem small64 {k : Int} (h0 : 0 ≤ k) (h1 : k ≤ 1000) : I64 k := by unfold I64; omega
theorem reqL_wf {j : Int} (h : I64 j) : (reqL j).wf := ⟨(show I64 5 from small64 (by omega) (by omega)), h, (show I64 0 from small64 (by omega) (by omega))⟩
theorem lockL_wf : lockL.wf := ⟨(show I64 1 from small64 (by omega) (by omega)), (show I64 0 from small64 (by omega) (by omega)), (show I64 0 from small64 (by omega) (by omega))⟩
theorem pat_pure (k a : Int) : Pure Try.prog 35 #[.int .i64 k, .int .i64 a] (⟨k, a, 0⟩ : Lc).val := fun w => by
  go_enter Try.func35, Try.ntmps35
  go_wp2
  exact bodyPost_ret (results_cell_row rfl _ _ w.heap.size 72 #[.int .i64 k, .int .i64 a, .int .i64 0] (0, 0) _ rfl (Row.new w [.int .i64 k, .int .i64 a, .int .i64 0] 72) Try.underlying72 rfl (by kernel_rfl)) rfl ⟨rfl, (Chg.refl _ _).alloc _⟩

/-- 'm[k] = v' in a region that draws its order. -/
theorem wp_mapUpdate_is {P : Program} {w : World} {o : Oper} {a : Act} {K : Act → World → Prop} {Q : Exit → Act → World → Prop} (m x v : Operand) (t : TypeId) (hop : o.op = Op.mapUpdate t m x v)
    (k e : TypeId) (K0 : Keyed P k) (ht : P.underlying t = some (.map k e)) (b n : Nat) (f : Value → Option Value)
    (hm : a.eval m = .map (some b)) (hown : MapIs P k w b n f) (key val : Value) (kl : Lit) (hx : a.eval x = key) (hv : a.eval v = val) (hkey : keyOf P k key = some kl)
    (h : ∀ w', MapIs P k w' b (n + 1) (fun x => open Classical in if x = key then some val else f x) → Chg [b] w w' → K (a.put o.dst undef) w') : o.wp P a w K Q := by
  obtain ⟨w', hrun, r1, r2⟩ := hown.update (val := val) K0 ht hkey
  unfold Oper.wp execOp
  simp [hop, hm, hx, hv, hrun, Result.andThen]
  exact h w' r1 r2

section
variable {S : List Nat} {w0 w : World} {A X Y : HA} {Bs : List HA} {b : Nat} {KC : List (Int × Cl)} {JR : List (Int × Rt)} {F : Int → Value}
theorem Scope.ask_get (h : Scope S w0 w (A :: X :: askA b KC :: Bs)) {j : Int} (hj : I64 j) : (Instr.lookup 85 (.map (some b)) (.int .i64 j) false).run Try.prog w = .ok (lastOf Cl.zero KC j).val w := by
  obtain ⟨f, ⟨⟨n, g, h1, h2⟩, _⟩, _⟩ := h.get 2 rfl
  obtain ⟨l, hl⟩ := keyOf_int hj
  have h4 := h1.lookup (t := 85) lawInt Try.underlying85 (zeroCall w) hl
  rw [h2 j hj] at h4
  exact h4
theorem Scope.ask_put (h : Scope S w0 w (A :: X :: askA b KC :: Bs)) {j : Int} (hj : I64 j) (c : Cl) : ∃ n g, MapIs Try.prog 3 w b n g ∧
    ∀ w3, MapIs Try.prog 3 w3 b (n + 1) (fun x => open Classical in if x = .int .i64 j then some c.val else g x) → Chg [b] w w3 → Scope S w0 w3 (A :: X :: askA b (KC ++ [(j, c)]) :: Bs) := by
  have h' : Scope S w0 w ([A, X] ++ ([askA b KC] ++ Bs)) := h
  obtain ⟨f, hf, hd⟩ := h'.swap.does
  obtain ⟨⟨n, g, h1, h2⟩, rfl⟩ := stars_one hf
  refine ⟨n, g, h1, fun w3 m3 c3 => ?_⟩
  have h4 : Scope S w0 w3 ([askA b (KC ++ [(j, c)])] ++ ([A, X] ++ Bs)) := hd _ _ (After.intro1 (A := askA b (KC ++ [(j, c)])) ⟨[b], ⟨⟨n + 1, _, m3, fun o hO => ?_⟩, rfl⟩, c3, Own.refl _ _⟩)
  · exact h4.swap
  · rw [lastOf_snoc]
    by_cases e : j = o
    · subst e; simp
    · have ne : (Value.int .i64 o) ≠ .int .i64 j := fun h => e (by simp at h; exact h.symm)
      simp only [if_neg e, if_neg ne]
      exact h2 o hO
theorem Scope.res_get (h : Scope S w0 w (A :: X :: Y :: resB b F JR :: Bs)) {j : Int} (hj : I64 j) : (Instr.lookup 86 (.map (some b)) (.int .i64 j) false).run Try.prog w = .ok ((lastOf Rt.zero JR j).val (F j)) w := by
  obtain ⟨f, ⟨_, _, ⟨n, g, h1, h2⟩, _⟩, _⟩ := h.get 3 rfl
  obtain ⟨l, hl⟩ := keyOf_int hj
  have h4 := h1.lookup (t := 86) lawInt Try.underlying86 (zeroResult w) hl
  rw [h2 j hj] at h4
  exact h4
theorem Scope.res_pk (h : Scope S w0 w (A :: X :: Y :: resB b F JR :: Bs)) {j : Int} (hj : I64 j) : PkS w (F j) (lastOf Rt.zero JR j).pk ∧ few' (lastOf Rt.zero JR j).pk := by
  obtain ⟨f, ⟨_, _, _, h2⟩, _⟩ := h.get 3 rfl
  obtain ⟨q1, q2, _⟩ := h2 j hj
  exact ⟨PkS.of_owns q2, q1⟩
theorem Scope.res_put (h : Scope S w0 w (A :: X :: Y :: resB b F JR :: Bs)) {j : Int} (hj : I64 j) {w1 : World} {s : Value} (r : Rt) (hc : Chg [] w w1) (ho : w1.ownsRow 0 48 3 s r.pk.length (pks r.pk)) (hn : ∀ k, s.ownBlock = some k → w.heap.size ≤ k) (hf : few' r.pk) :
    ∃ n g, MapIs Try.prog 3 w1 b n g ∧
    ∀ w3, MapIs Try.prog 3 w3 b (n + 1) (fun x => open Classical in if x = .int .i64 j then some (r.val s) else g x) → Chg [b] w1 w3 → Scope S w0 w3 (A :: X :: Y :: resB b (fun o => if j = o then s else F o) (JR ++ [(j, r)]) :: Bs) := by
  have h' : Scope S w0 w ([A, X, Y] ++ ([resB b F JR] ++ Bs)) := h
  obtain ⟨fp, hfp, hd⟩ := h'.swap.does
  obtain ⟨h1, h2, ⟨n, g, h3, h4⟩, h5⟩ := stars_one hfp
  have m1 : MapIs Try.prog 3 w1 b n g := h3.chg hc (by simp)
  have nb : ∀ k, s.ownBlock = some k → k ≠ b := fun k hk e => by
    have q1 := hn k hk
    have q2 := h2 b h1
    omega
  refine ⟨n, g, m1, fun w3 m3 c3 => ?_⟩
  have h6 : Scope S w0 w3 ([resB b (fun o => if j = o then s else F o) (JR ++ [(j, r)])] ++ ([A, X, Y] ++ Bs)) := hd _ _ (After.intro1 (A := resB b (fun o => if j = o then s else F o) (JR ++ [(j, r)])) ⟨fp ++ s.ownBlock.toList, ⟨by simp [h1], ?_, ⟨n + 1, _, m3, fun o hO => ?_⟩, fun o hO => ?_⟩, ((Chg.refl fp w).quiet hc).trans c3 (fun i hi => .inl (by simp at hi; subst hi; exact h1)), fun k hk => ?_⟩)
  · exact h6.swap
  · intro k hk
    rcases List.mem_append.1 hk with hk | hk
    · exact Nat.lt_of_lt_of_le (h2 k hk) (Nat.le_trans hc.size c3.size)
    · exact Nat.lt_of_lt_of_le (ho.lt k (by simpa using hk)).2 c3.size
  · rw [lastOf_snoc]
    by_cases e : j = o
    · subst e; simp
    · have ne : (Value.int .i64 o) ≠ .int .i64 j := fun h => e (by simp at h; exact h.symm)
      simp only [if_neg e, if_neg ne]
      exact h4 o hO
  · rw [lastOf_snoc]
    by_cases e : j = o
    · simp only [if_pos e]
      exact ⟨hf, ownsRow_chg ho c3 (fun k hk => by simpa using nb k hk), fun k hk => by simp [hk]⟩
    · simp only [if_neg e]
      obtain ⟨q1, q2, q3⟩ := h5 o hO
      refine ⟨q1, ownsRow_chg (ownsRow_chg q2 hc (by simp)) c3 (fun k hk => ?_), fun k hk => by simp [q3 k hk]⟩
      have := ownsRow_not_map q2 h3
      simp
      rintro rfl
      exact this hk
  · rcases List.mem_append.1 hk with hk | hk
    · exact .inl hk
    · exact .inr (hn k (by simpa using hk))
end

section
variable {p m ba br : Nat} {W : Int} {σ : MS} {KC : List (Int × Cl)} {JR : List (Int × Rt)} {F : Int → Value}

set_option maxHeartbeats 1000000 in
theorem psend_does0 (who : Int) (hw' : I64 who) (hl : σ.log.length ≤ 1000000) :
    Does Try.prog [stars [memA m σ, box p [ptr m, .int .i64 W, .map (some ba), .map (some br)] 88, askA ba KC, resB br F JR]] 13 #[ptr p, .int .i64 who] (.tuple #[]) [stars [memA m ((σ.put who 2 (reqL who)).set (reqL who) 1), box p [ptr m, .int .i64 W, .map (some ba), .map (some br)] 88, askA ba KC, resB br F JR]] := Does.pack fun S w0 w h => by
  have c0 : w.cell? ⟨p, 0, none⟩ = some (ptr m) := (h.row 1 rfl).cell rfl
  have H0 := Lib.hid h
  clear h
  have hw := reqL_wf hw'; have Hw := Lib.hid hw
  clear hw
  go_enter Try.func13, Try.ntmps13
  go_wp2_with fail
  go_region_held3 (fun w' => w'.cell? ⟨p, 0, none⟩ = some (ptr m))
    (go_keep)
    (first
      | (go_at_call 35
         refine ((pat_pure 5 who).at H0.out.drew).mono ?_
         rintro e w1 ⟨rfl, s1⟩
         have g1 : w1.cell? ⟨p, 0, none⟩ = some (ptr m) := (s1.row 1 rfl).cell rfl
         have H1 := Lib.hid s1
         clear s1)
      | (go_at_call 37
         refine ((store_does who (reqL who) Hw.out 1 (by unfold U64; omega) hl).at0 H1.out).mono ?_
         rintro e wz ⟨rfl, sz⟩
         have gz : wz.cell? ⟨p, 0, none⟩ = some (ptr m) := (sz.row 1 rfl).cell rfl
         have Hz := Lib.hid sz
         clear sz))
  go_wp2
  go_end0
  exact Ends.mk [] (by simpa using Hz.out)
theorem psend_does (who : Int) (hw' : I64 who) (hl : σ.log.length ≤ 1000000) : Does Try.prog [postA p m ba br W σ KC JR] 13 #[ptr p, .int .i64 who] (.tuple #[]) [postA p m ba br W ((σ.put who 2 (reqL who)).set (reqL who) 1) KC JR] :=
  Does.ex (F := fun F => stars (postL p m ba br W σ KC JR F)) (G := fun F => stars (postL p m ba br W ((σ.put who 2 (reqL who)).set (reqL who) 1) KC JR F)) fun _ => psend_does0 who hw' hl

set_option maxHeartbeats 1000000 in
theorem pready_does0 (who j : Int) (hj : I64 j) (hl : σ.log.length ≤ 1000000) :
    Does Try.prog [stars [memA m σ, box p [ptr m, .int .i64 W, .map (some ba), .map (some br)] 88, askA ba KC, resB br F JR]] 16 #[ptr p, .int .i64 who, .int .i64 j] (.tuple #[]) [stars [memA m ((σ.put who 2 (reqL j)).set (reqL j) 2), box p [ptr m, .int .i64 W, .map (some ba), .map (some br)] 88, askA ba KC, resB br F JR]] := Does.pack fun S w0 w h => by
  have c0 : w.cell? ⟨p, 0, none⟩ = some (ptr m) := (h.row 1 rfl).cell rfl
  have H0 := Lib.hid h
  clear h
  have hw := reqL_wf hj; have Hw := Lib.hid hw
  clear hw
  go_enter Try.func16, Try.ntmps16
  go_wp2_with fail
  go_region_held3 (fun w' => w'.cell? ⟨p, 0, none⟩ = some (ptr m))
    (go_keep)
    (first
      | (go_at_call 35
         refine ((pat_pure 5 j).at H0.out.drew).mono ?_
         rintro e w1 ⟨rfl, s1⟩
         have g1 : w1.cell? ⟨p, 0, none⟩ = some (ptr m) := (s1.row 1 rfl).cell rfl
         have H1 := Lib.hid s1
         clear s1)
      | (go_at_call 37
         refine ((store_does who (reqL j) Hw.out 2 (by unfold U64; omega) hl).at0 H1.out).mono ?_
         rintro e wz ⟨rfl, sz⟩
         have gz : wz.cell? ⟨p, 0, none⟩ = some (ptr m) := (sz.row 1 rfl).cell rfl
         have Hz := Lib.hid sz
         clear sz))
  go_wp2
  go_end0
  exact Ends.mk [] (by simpa using Hz.out)
theorem pready_does (who j : Int) (hj : I64 j) (hl : σ.log.length ≤ 1000000) : Does Try.prog [postA p m ba br W σ KC JR] 16 #[ptr p, .int .i64 who, .int .i64 j] (.tuple #[]) [postA p m ba br W ((σ.put who 2 (reqL j)).set (reqL j) 2) KC JR] :=
  Does.ex (F := fun F => stars (postL p m ba br W σ KC JR F)) (G := fun F => stars (postL p m ba br W ((σ.put who 2 (reqL j)).set (reqL j) 2) KC JR F)) fun _ => pready_does0 who j hj hl

set_option maxHeartbeats 1000000 in
theorem ptry_does0 (who : Int) (hl : σ.log.length ≤ 1000000) :
    Does Try.prog [stars [memA m σ, box p [ptr m, .int .i64 W, .map (some ba), .map (some br)] 88, askA ba KC, resB br F JR]] 23 #[ptr p, .int .i64 who] (.bool (decide (σ.num lockL = 0))) [stars [memA m (σ.swap who lockL 0 1), box p [ptr m, .int .i64 W, .map (some ba), .map (some br)] 88, askA ba KC, resB br F JR]] := Does.pack fun S w0 w h => by
  have c0 : w.cell? ⟨p, 0, none⟩ = some (ptr m) := (h.row 1 rfl).cell rfl
  have H0 := Lib.hid h
  clear h
  go_enter Try.func23, Try.ntmps23
  go_wp2_with fail
  go_region_held3 (fun w' => w'.cell? ⟨p, 0, none⟩ = some (ptr m))
    (go_keep)
    (first
      | (go_at_call 35
         refine ((pat_pure 1 0).at H0.out.drew).mono ?_
         rintro e w1 ⟨rfl, s1⟩
         have g1 : w1.cell? ⟨p, 0, none⟩ = some (ptr m) := (s1.row 1 rfl).cell rfl
         have H1 := Lib.hid s1
         clear s1)
      | (go_at_call 41
         refine ((swap_does who lockL lockL_wf 0 1 (by unfold U64; omega) hl).at0 H1.out).mono ?_
         rintro e wz ⟨rfl, sz⟩
         have gz : wz.cell? ⟨p, 0, none⟩ = some (ptr m) := (sz.row 1 rfl).cell rfl
         have Hz := Lib.hid sz
         clear sz))
  go_wp2
  go_ret
  exact Ends.mk [] (by simpa using Hz.out)
theorem ptry_does (who : Int) (hl : σ.log.length ≤ 1000000) : Does Try.prog [postA p m ba br W σ KC JR] 23 #[ptr p, .int .i64 who] (.bool (decide (σ.num lockL = 0))) [postA p m ba br W (σ.swap who lockL 0 1) KC JR] :=
  Does.ex (F := fun F => stars (postL p m ba br W σ KC JR F)) (G := fun F => stars (postL p m ba br W (σ.swap who lockL 0 1) KC JR F)) fun _ => ptry_does0 who hl

set_option maxHeartbeats 1000000 in
theorem pleave_does0 (who : Int) (hl : σ.log.length ≤ 1000000) :
    Does Try.prog [stars [memA m σ, box p [ptr m, .int .i64 W, .map (some ba), .map (some br)] 88, askA ba KC, resB br F JR]] 22 #[ptr p, .int .i64 who] (.tuple #[]) [stars [memA m ((σ.put who 2 lockL).set lockL 0), box p [ptr m, .int .i64 W, .map (some ba), .map (some br)] 88, askA ba KC, resB br F JR]] := Does.pack fun S w0 w h => by
  have c0 : w.cell? ⟨p, 0, none⟩ = some (ptr m) := (h.row 1 rfl).cell rfl
  have H0 := Lib.hid h
  clear h
  go_enter Try.func22, Try.ntmps22
  go_wp2_with fail
  go_region_held3 (fun w' => w'.cell? ⟨p, 0, none⟩ = some (ptr m))
    (go_keep)
    (first
      | (go_at_call 35
         refine ((pat_pure 1 0).at H0.out.drew).mono ?_
         rintro e w1 ⟨rfl, s1⟩
         have g1 : w1.cell? ⟨p, 0, none⟩ = some (ptr m) := (s1.row 1 rfl).cell rfl
         have H1 := Lib.hid s1
         clear s1)
      | (go_at_call 37
         refine ((store_does who lockL lockL_wf 0 (by unfold U64; omega) hl).at0 H1.out).mono ?_
         rintro e wz ⟨rfl, sz⟩
         have gz : wz.cell? ⟨p, 0, none⟩ = some (ptr m) := (sz.row 1 rfl).cell rfl
         have Hz := Lib.hid sz
         clear sz))
  go_wp2
  go_end0
  exact Ends.mk [] (by simpa using Hz.out)
theorem pleave_does (who : Int) (hl : σ.log.length ≤ 1000000) : Does Try.prog [postA p m ba br W σ KC JR] 22 #[ptr p, .int .i64 who] (.tuple #[]) [postA p m ba br W ((σ.put who 2 lockL).set lockL 0) KC JR] :=
  Does.ex (F := fun F => stars (postL p m ba br W σ KC JR F)) (G := fun F => stars (postL p m ba br W ((σ.put who 2 lockL).set lockL 0) KC JR F)) fun _ => pleave_does0 who hl

set_option maxHeartbeats 1000000 in
theorem pstate_does0 (who j : Int) (hj : I64 j) (hl : σ.log.length ≤ 1000000) :
    Does Try.prog [stars [memA m σ, box p [ptr m, .int .i64 W, .map (some ba), .map (some br)] 88, askA ba KC, resB br F JR]] 12 #[ptr p, .int .i64 who, .int .i64 j] (.int .u64 (σ.num (reqL j))) [stars [memA m (σ.put who 1 (reqL j)), box p [ptr m, .int .i64 W, .map (some ba), .map (some br)] 88, askA ba KC, resB br F JR]] := Does.pack fun S w0 w h => by
  have c0 : w.cell? ⟨p, 0, none⟩ = some (ptr m) := (h.row 1 rfl).cell rfl
  have H0 := Lib.hid h
  clear h
  have hw := reqL_wf hj; have Hw := Lib.hid hw
  clear hw
  go_enter Try.func12, Try.ntmps12
  go_wp2_with fail
  go_region_held3 (fun w' => w'.cell? ⟨p, 0, none⟩ = some (ptr m))
    (go_keep)
    (first
      | (go_at_call 35
         refine ((pat_pure 5 j).at H0.out.drew).mono ?_
         rintro e w1 ⟨rfl, s1⟩
         have g1 : w1.cell? ⟨p, 0, none⟩ = some (ptr m) := (s1.row 1 rfl).cell rfl
         have H1 := Lib.hid s1
         clear s1)
      | (go_at_call 36
         refine ((load_does who (reqL j) Hw.out hl).at0 H1.out).mono ?_
         rintro e wz ⟨rfl, sz⟩
         have gz : wz.cell? ⟨p, 0, none⟩ = some (ptr m) := (sz.row 1 rfl).cell rfl
         have Hz := Lib.hid sz
         clear sz))
  go_wp2
  go_ret
  exact Ends.mk [] (by simpa using Hz.out)
theorem pstate_does (who j : Int) (hj : I64 j) (hl : σ.log.length ≤ 1000000) : Does Try.prog [postA p m ba br W σ KC JR] 12 #[ptr p, .int .i64 who, .int .i64 j] (.int .u64 (σ.num (reqL j))) [postA p m ba br W (σ.put who 1 (reqL j)) KC JR] :=
  Does.ex (F := fun F => stars (postL p m ba br W σ KC JR F)) (G := fun F => stars (postL p m ba br W (σ.put who 1 (reqL j)) KC JR F)) fun _ => pstate_does0 who j hj hl

theorem pworkers_does : Does Try.prog [postA p m ba br W σ KC JR] 24 #[ptr p] (.int .i64 W) [postA p m ba br W σ KC JR] :=
  Does.ex (F := fun F => stars (postL p m ba br W σ KC JR F)) (G := fun F => stars (postL p m ba br W σ KC JR F)) fun F => Does.pack fun S w0 w h => by
  have c0 : w.cell? ⟨p, 1, none⟩ = some (.int .i64 W) := (h.row 1 rfl).cell rfl
  have H0 := Lib.hid h
  clear h
  go_enter Try.func24, Try.ntmps24
  go_wp2
  go_ret
  exact Ends.mk [] (by simpa using H0.out)

set_option maxHeartbeats 1000000 in
/-- Ask. -/
theorem pask_does (who : Int) (c : Cl) (hw' : I64 who) (hl : σ.log.length ≤ 1000000) : Does Try.prog [postA p m ba br W σ KC JR] 11 #[ptr p, .int .i64 who, c.val] (.tuple #[]) [postA p m ba br W (σ.put who 6 (argL who)) (KC ++ [(who, c)]) JR] :=
  Does.ex (F := fun F => stars (postL p m ba br W σ KC JR F)) (G := fun F => stars (postL p m ba br W (σ.put who 6 (argL who)) (KC ++ [(who, c)]) JR F)) fun F => Does.pack fun S w0 w h => by
  have s1 := Lib.hid (show Scope S w0 (w.alloc (.cells #[.int .i64 c.op, .int .i64 c.flow, .int .i64 c.a, .int .i64 c.b] 32)).drew (postL p m ba br W σ KC JR F ++ [box w.heap.size [.int .i64 c.op, .int .i64 c.flow, .int .i64 c.a, .int .i64 c.b] 32]) from (h.box [.int .i64 c.op, .int .i64 c.flow, .int .i64 c.a, .int .i64 c.b] 32).drew)
  have g0 : (w.alloc (.cells #[.int .i64 c.op, .int .i64 c.flow, .int .i64 c.a, .int .i64 c.b] 32)).drew.cell? ⟨p, 0, none⟩ = some (ptr m) := (s1.out.row 1 rfl).cell rfl
  have Hw' := Lib.hid hw'
  clear h hw'
  go_enter Try.func11, Try.ntmps11
  go_wp2_with fail
  go_region_held3 (fun w' => w'.cell? ⟨p, 0, none⟩ = some (ptr m)) (go_keep)
    (first
      | (go_at_call 35
         refine ((pat_pure 6 who).at (Hid.out (by assumption))).mono ?_
         rintro e wq ⟨rfl, sq⟩
         have g0 : wq.cell? ⟨p, 0, none⟩ = some (ptr m) := (sq.row 1 rfl).cell rfl
         have Hq := Lib.hid sq
         clear sq)
      | (go_at_call 34
         refine ((write_does who (argL who) hl).at0 (Hid.out (by assumption))).mono ?_
         rintro e wz ⟨rfl, sz⟩
         have g0 : wz.cell? ⟨p, 0, none⟩ = some (ptr m) := (sz.row 1 rfl).cell rfl
         have Hz := Lib.hid sz
         clear sz))
  clear g0
  obtain ⟨B, hB⟩ : ∃ B, B = w.heap.size := ⟨_, rfl⟩
  have Z1 := Lib.hid (show Scope S w0 wz.drew (postL p m ba br W (σ.put who 6 (argL who)) KC JR F ++ [box B [.int .i64 c.op, .int .i64 c.flow, .int .i64 c.a, .int .i64 c.b] 32]) from by rw [hB]; exact Hz.out.drew)
  go_wp2_with fail
  rw [← hB]
  clear hB Hz s1
  refine wp_region_any (by kernel_rfl) ?_
  change wpAny _ _ _ _ _ _ _ wz.drew
  have Z2 := Z1
  generalize wz.drew = d0 at Z2 ⊢
  clear Z1
  have rB := Z2.out.row (k := B) (vs := [.int .i64 c.op, .int .i64 c.flow, .int .i64 c.a, .int .i64 c.b]) (t := 32) 4 rfl
  obtain ⟨x0, x1, x2, x3⟩ := rB.cells4
  have h0 : d0.cell? ⟨p, 2, none⟩ = some (.map (some ba)) ∧ d0.cell? ⟨B, 0, none⟩ = some (.int .i64 c.op) ∧ d0.cell? ⟨B, 1, none⟩ = some (.int .i64 c.flow) ∧ d0.cell? ⟨B, 2, none⟩ = some (.int .i64 c.a) ∧ d0.cell? ⟨B, 3, none⟩ = some (.int .i64 c.b) := ⟨(Z2.out.row 1 rfl).cell rfl, x0, x1, x2, x3⟩
  clear rB x0 x1 x2 x3
  refine wpAny_of_U (S := fun w' => w'.cell? ⟨p, 2, none⟩ = some (.map (some ba)) ∧ w'.cell? ⟨B, 0, none⟩ = some (.int .i64 c.op) ∧ w'.cell? ⟨B, 1, none⟩ = some (.int .i64 c.flow) ∧ w'.cell? ⟨B, 2, none⟩ = some (.int .i64 c.a) ∧ w'.cell? ⟨B, 3, none⟩ = some (.int .i64 c.b)) (U := [0, 1, 2, 3, 4, 5]) _ _ _ _ ?_
  refine wpAnyU_take (i := 0) (v := ?_) rfl (by kernel_rfl) (by kernel_rfl) (by kernel_rfl) (by kernel_rfl) (fun _ _ _ h => h) (Or.inl ⟨by rfl, ?_⟩) h0 ?_
  rotate_left 1
  · (intro w' hS; (try dsimp only at hS); (try simp only [List.getElem_toArray, List.getElem_cons_succ, List.getElem_cons_zero]); go_simp; (try with_reducible rfl))
  try simp only [Act.put, List.getElem_toArray, List.getElem_cons_succ, List.getElem_cons_zero, List.setIfInBounds_toArray, List.set_cons_zero, List.set_cons_succ]
  refine wpAnyU_take (i := 1) (v := ?_) rfl (by kernel_rfl) (by kernel_rfl) (by kernel_rfl) (by kernel_rfl) (fun _ _ _ h => h) (Or.inl ⟨by rfl, ?_⟩) h0 ?_
  rotate_left 1
  · (intro w' hS; (try dsimp only at hS); (try simp only [List.getElem_toArray, List.getElem_cons_succ, List.getElem_cons_zero]); go_simp; (try with_reducible rfl))
  try simp only [Act.put, List.getElem_toArray, List.getElem_cons_succ, List.getElem_cons_zero, List.setIfInBounds_toArray, List.set_cons_zero, List.set_cons_succ]
  refine wpAnyU_take (i := 2) (v := ?_) rfl (by kernel_rfl) (by kernel_rfl) (by kernel_rfl) (by kernel_rfl) (fun _ _ _ h => h) (Or.inl ⟨by rfl, ?_⟩) h0 ?_
  rotate_left 1
  · (intro w' hS; (try dsimp only at hS); (try simp only [List.getElem_toArray, List.getElem_cons_succ, List.getElem_cons_zero]); go_simp; (try with_reducible rfl))
  try simp only [Act.put, List.getElem_toArray, List.getElem_cons_succ, List.getElem_cons_zero, List.setIfInBounds_toArray, List.set_cons_zero, List.set_cons_succ]
  refine wpAnyU_take (i := 3) (v := ?_) rfl (by kernel_rfl) (by kernel_rfl) (by kernel_rfl) (by kernel_rfl) (fun _ _ _ h => h) (Or.inl ⟨by rfl, ?_⟩) h0 ?_
  rotate_left 1
  · (intro w' hS; (try dsimp only at hS); (try simp only [List.getElem_toArray, List.getElem_cons_succ, List.getElem_cons_zero]); go_simp; (try with_reducible rfl))
  try simp only [Act.put, List.getElem_toArray, List.getElem_cons_succ, List.getElem_cons_zero, List.setIfInBounds_toArray, List.set_cons_zero, List.set_cons_succ]
  refine wpAnyU_take (i := 4) (v := ?_) rfl (by kernel_rfl) (by kernel_rfl) (by kernel_rfl) (by kernel_rfl) (fun _ _ _ h => h) (Or.inl ⟨by rfl, ?_⟩) h0 ?_
  rotate_left 1
  · (intro w' hS; (try dsimp only at hS); (try simp only [List.getElem_toArray, List.getElem_cons_succ, List.getElem_cons_zero]); go_simp; (try with_reducible rfl))
  try simp only [Act.put, List.getElem_toArray, List.getElem_cons_succ, List.getElem_cons_zero, List.setIfInBounds_toArray, List.set_cons_zero, List.set_cons_succ]
  refine wpAnyU_take (i := 5) (v := ?_) rfl (by kernel_rfl) (by kernel_rfl) (by kernel_rfl) (by kernel_rfl) (fun _ _ _ h => h) (Or.inl ⟨by rfl, ?_⟩) h0 ?_
  rotate_left 1
  · (intro w' hS; (try dsimp only at hS); (try simp only [List.getElem_toArray, List.getElem_cons_succ, List.getElem_cons_zero]); go_simp; (try with_reducible rfl))
  try simp only [Act.put, List.getElem_toArray, List.getElem_cons_succ, List.getElem_cons_zero, List.setIfInBounds_toArray, List.set_cons_zero, List.set_cons_succ]
  refine wpAnyU_rest _ _ _ _ (fun j hj => ?_) ?_
  · simp at hj; rcases hj with rfl | rfl | rfl | rfl | rfl | rfl <;> rfl
  obtain ⟨k, g, hm, hp⟩ := Z2.out.ask_put Hw'.out c
  have Hp := Lib.hid hp
  obtain ⟨l, hk⟩ := keyOf_int Hw'.out
  clear hp h0
  refine wpAny_all (rs := [6]) (by kernel_rfl) (by simp) (fun i hi => ?_)
  obtain rfl : i = 6 := by simpa using hi
  refine wpOpU_step rfl rfl (fun K hK => ?_)
  refine wp_mapUpdate_is _ _ _ 85 rfl 3 32 lawInt Try.underlying85 ba k g rfl hm _ _ l rfl rfl hk ?_
  intro w3 m3 c3
  have P3 := Lib.hid (Hp.out w3 m3 c3)
  clear m3 c3
  refine hK _ _ ?_
  clear hK K
  refine wpAny_done (by kernel_rfl) ?_ _
  go_wp2
  go_end0
  exact Ends.mk [box B [.int .i64 c.op, .int .i64 c.flow, .int .i64 c.a, .int .i64 c.b] 32] P3.out

set_option maxHeartbeats 1000000 in
/-- Arg. -/
theorem parg_does (who j : Int) (hj : I64 j) (hl : σ.log.length ≤ 1000000) : Does Try.prog [postA p m ba br W σ KC JR] 14 #[ptr p, .int .i64 who, .int .i64 j] (lastOf Cl.zero KC j).val [postA p m ba br W (σ.put who 5 (argL j)) KC JR] :=
  Does.ex (F := fun F => stars (postL p m ba br W σ KC JR F)) (G := fun F => stars (postL p m ba br W (σ.put who 5 (argL j)) KC JR F)) fun F => Does.pack fun S w0 w h => by
  have s1 := Lib.hid (show Scope S w0 (w.alloc (.cells #[.int .i64 0, .int .i64 0, .int .i64 0, .int .i64 0] 32)).drew (postL p m ba br W σ KC JR F ++ [box w.heap.size [.int .i64 0, .int .i64 0, .int .i64 0, .int .i64 0] 32]) from (h.box [.int .i64 0, .int .i64 0, .int .i64 0, .int .i64 0] 32).drew)
  have g0 : (w.alloc (.cells #[.int .i64 0, .int .i64 0, .int .i64 0, .int .i64 0] 32)).drew.cell? ⟨p, 0, none⟩ = some (ptr m) := (s1.out.row 1 rfl).cell rfl
  have Hj := Lib.hid hj
  clear h hj
  go_enter Try.func14, Try.ntmps14
  go_wp2_with fail
  go_region_held3 (fun w' => w'.cell? ⟨p, 0, none⟩ = some (ptr m)) (go_keep)
    (first
      | (go_at_call 35
         refine ((pat_pure 6 j).at (Hid.out (by assumption))).mono ?_
         rintro e wq ⟨rfl, sq⟩
         have g0 : wq.cell? ⟨p, 0, none⟩ = some (ptr m) := (sq.row 1 rfl).cell rfl
         have Hq := Lib.hid sq
         clear sq)
      | (go_at_call 38
         refine ((read_does who (argL j) hl).at0 (Hid.out (by assumption))).mono ?_
         rintro e wz ⟨rfl, sz⟩
         have g0 : wz.cell? ⟨p, 0, none⟩ = some (ptr m) := (sz.row 1 rfl).cell rfl
         have Hz := Lib.hid sz
         clear sz))
  clear g0
  obtain ⟨B, hB⟩ : ∃ B, B = w.heap.size := ⟨_, rfl⟩
  have Z1 := Lib.hid (show Scope S w0 wz (postL p m ba br W (σ.put who 5 (argL j)) KC JR F ++ [box B [.int .i64 0, .int .i64 0, .int .i64 0, .int .i64 0] 32]) from by rw [hB]; exact Hz.out)
  have hrun := Z1.out.ask_get Hj.out
  have c2 : wz.cell? ⟨p, 2, none⟩ = some (.map (some ba)) := (Z1.out.row 1 rfl).cell rfl
  have rg := Z1.out.row (k := B) (vs := [.int .i64 0, .int .i64 0, .int .i64 0, .int .i64 0]) (t := 32) 4 rfl
  have f0 := rg.free 0; have f1 := rg.free 1; have f2 := rg.free 2; have f3 := rg.free 3
  obtain ⟨x0, x1, x2, x3⟩ := rg.cells4
  have Rg := Lib.hid rg
  clear rg Hz s1
  rw [← hB]
  clear hB
  generalize lastOf Cl.zero KC j = c at *
  go_wp2
  refine bodyPost_ret (results_cell_row rfl _ _ B 32 #[.int .i64 c.op, .int .i64 c.flow, .int .i64 c.a, .int .i64 c.b] (0, 0) _ rfl ((((Rg.out.set 0 (.int .i64 c.op)).set 1 (.int .i64 c.flow)).set 2 (.int .i64 c.a)).set 3 (.int .i64 c.b)) Try.underlying32 rfl (by kernel_rfl)) rfl ?_
  refine Ends.mk [box B [.int .i64 c.op, .int .i64 c.flow, .int .i64 c.a, .int .i64 c.b] 32] ?_
  have q1 := Scope.setbox (As := postL p m ba br W (σ.put who 5 (argL j)) KC JR F) (Bs := []) Z1.out 0 (.int .i64 c.op)
  have q2 := Scope.setbox (As := postL p m ba br W (σ.put who 5 (argL j)) KC JR F) (Bs := []) q1 1 (.int .i64 c.flow)
  have q3 := Scope.setbox (As := postL p m ba br W (σ.put who 5 (argL j)) KC JR F) (Bs := []) q2 2 (.int .i64 c.a)
  have q4 := Scope.setbox (As := postL p m ba br W (σ.put who 5 (argL j)) KC JR F) (Bs := []) q3 3 (.int .i64 c.b)
  exact q4
end
end Go.Proofs.Ytjipjhmcpjffcac
