/- Answer, Result, New of package post; made of layer 20. -/
import Derived.Test.YtjipjhmcpjffcacPost
set_option linter.unusedSimpArgs false
set_option linter.unusedVariables false
set_option maxRecDepth 20000
namespace Go.Proofs.Ytjipjhmcpjffcac
open Go Go.RowKit Go.Maps
theorem rows3 {w w1 : World} {a b c : List Value} {t1 t2 t3 : TypeId} (h : Chg [] (((w.alloc (.cells a.toArray t1)).alloc (.cells b.toArray t2)).alloc (.cells c.toArray t3)) w1) :
    Row w1 (w.heap.size + 1) b t2 ∧ Row w1 (w.heap.size + 1 + 1) c t3 ∧ Chg [] w w1 := by
  have r1 := ((Row.new (w.alloc (.cells a.toArray t1)) b t2).alloc (.cells c.toArray t3)).chg h (by simp)
  have r2 := (Row.new ((w.alloc (.cells a.toArray t1)).alloc (.cells b.toArray t2)) c t3).chg h (by simp)
  refine ⟨by simpa using r1, by simpa using r2, ((((Chg.refl _ _).alloc _).alloc _).alloc _).quiet h⟩
/-- A result, copied. -/
def OwnTold (w : World) (r : Rt) (e : Ending) (w' : World) : Prop := ∃ c oa, e = .returned (r.val (.slice oa r.pk.length c)) ∧ w'.ownsRow 0 48 3 (.slice oa r.pk.length c) r.pk.length (pks r.pk) ∧ Chg [] w w' ∧ ∀ k, (Value.slice oa r.pk.length c).ownBlock = some k → w.heap.size ≤ k
set_option maxHeartbeats 1000000 in
theorem own_any {w : World} {r : Rt} {s : Value} (hs : PkS w s r.pk) (hf : few' r.pk) : Calls Try.prog 39 #[r.val s] w (OwnTold w r) := by
  have HS := Lib.hid hs
  obtain ⟨oa, cp, es⟩ := hs.form
  clear hs
  obtain ⟨n, hn⟩ : ∃ n, n = r.pk.length := ⟨_, rfl⟩
  rw [← hn] at es
  have HN := Lib.hid hn
  clear hn
  subst es
  go_enter Try.func39, Try.ntmps39
  go_wp2_with fail
  refine (clonePk_any (HS.out.chg ((((Chg.refl _ _).alloc _).alloc _).alloc _)) hf).mono ?_
  rintro e w1 ⟨v, rfl, o1, c1, n1⟩
  obtain ⟨r1, r2, c2⟩ := rows3 (a := [.int .i64 r.e, .slice oa n cp, .int .i64 r.n, .int .u64 r.v]) (b := [.int .i64 0, .slice none 0 0, .int .i64 0, .int .u64 0]) (c := [.int .i64 r.e, .slice oa n cp, .int .i64 r.n, .int .u64 r.v]) c1
  obtain ⟨ob, cq, ev⟩ := (PkS.of_owns o1).form
  subst ev
  have nb : ∀ k, (Value.slice ob r.pk.length cq).ownBlock = some k → w.heap.size + 3 ≤ k := by simpa using n1
  have O1 := Lib.hid o1; have C2 := Lib.hid c2; have NB := Lib.hid nb
  obtain ⟨B, hB⟩ : ∃ B, B = w.heap.size + 1 := ⟨_, rfl⟩
  rw [← hB] at r1 r2 ⊢
  have R1 := Lib.hid r1; have R2 := Lib.hid r2
  have f0 := r1.free 0; have f1 := r1.free 1; have f2 := r1.free 2; have f3 := r1.free 3
  obtain ⟨x0, x1, x2, x3⟩ := r1.cells4
  have g1 := r2.free 1
  obtain ⟨y0, y1, y2, y3⟩ := r2.cells4
  have HB := Lib.hid hB
  clear o1 c2 nb r1 r2 n1 c1 hB
  go_wp2
  refine bodyPost_ret (results_cell_row rfl _ _ B 41 #[.int .i64 r.e, .slice ob r.pk.length cq, .int .i64 r.n, .int .u64 r.v] (0, 0) _ rfl ((((((R1.out.other (a := ⟨B + 1, 1, none⟩) (by simp) _).set 0 (.int .i64 r.e)).set 1 (.slice ob r.pk.length cq)).set 2 (.int .i64 r.n)).set 3 (.int .u64 r.v))) Try.underlying41 rfl (by kernel_rfl)) rfl ?_
  have hB := HB.out
  refine ⟨cq, ob, rfl, ownsRow_chg O1.out ((((((Chg.refl [B, B + 1] w1).setCell (.inl (by simp)) _).setCell (.inl (by simp)) _).setCell (.inl (by simp)) _).setCell (.inl (by simp)) _).setCell (.inl (by simp)) _) (fun k hk => ?_), ((((C2.out.setCell (.inr (by simp; omega)) _).setCell (.inr (by simp; omega)) _).setCell (.inr (by simp; omega)) _).setCell (.inr (by simp; omega)) _).setCell (.inr (by simp; omega)) _, fun k hk => ?_⟩
  · have := NB.out k hk
    simp
    omega
  · have := NB.out k hk
    omega

section
variable {S : List Nat} {w0 w : World} {Bs : List HA} {p m ba br : Nat} {W : Int} {σ : MS} {KC : List (Int × Cl)} {JR : List (Int × Rt)}
set_option maxHeartbeats 1000000 in
/-- Answer. -/
theorem panswer_scope (who j : Int) (r : Rt) (s : Value) (h : Scope S w0 w (postA p m ba br W σ KC JR :: Bs)) (hj : I64 j) (hsafe : ∀ X w', Scope S w0 w' (X :: Bs) → PkS w' s r.pk) (hf : few' r.pk) (hl : σ.log.length ≤ 1000000) :
    Calls Try.prog 15 #[ptr p, .int .i64 who, .int .i64 j, r.val s] w fun e w' => e = .returned (.tuple #[]) ∧ Scope S w0 w' (postA p m ba br W (σ.put who 6 (resL j)) KC (JR ++ [(j, r)]) :: Bs) := by
  obtain ⟨F, h1⟩ := h.exo
  obtain ⟨oa, cp, es⟩ := (hsafe _ _ h1).form
  obtain ⟨n, hn⟩ : ∃ n, n = r.pk.length := ⟨_, rfl⟩
  rw [← hn] at es
  have HN := Lib.hid hn
  clear hn
  subst es
  have s1 := Lib.hid (show Scope S w0 (w.alloc (.cells #[.int .i64 r.e, .slice oa n cp, .int .i64 r.n, .int .u64 r.v] 41)).drew (postL p m ba br W σ KC JR F ++ Bs) from (h1.open1.alloc _).drew)
  have g0 : (w.alloc (.cells #[.int .i64 r.e, .slice oa n cp, .int .i64 r.n, .int .u64 r.v] 41)).drew.cell? ⟨p, 0, none⟩ = some (ptr m) := (s1.out.row 1 rfl).cell rfl
  have Hj := Lib.hid hj; have HS := Lib.hid hsafe
  clear h h1 hj hsafe
  go_enter Try.func15, Try.ntmps15
  go_wp2_with fail
  go_region_held3 (fun w' => w'.cell? ⟨p, 0, none⟩ = some (ptr m)) (go_keep)
    (first
      | (go_at_call 35
         refine ((pat_pure 7 j).at (Hid.out (by assumption))).mono ?_
         rintro e wq ⟨rfl, sq⟩
         have g0 : wq.cell? ⟨p, 0, none⟩ = some (ptr m) := (sq.row 1 rfl).cell rfl
         have Hq := Lib.hid sq
         clear sq)
      | (go_at_call 34
         refine ((write_does who (resL j) hl).at0 (Hid.out (by assumption))).mono ?_
         rintro e wz ⟨rfl, sz⟩
         have g0 : wz.cell? ⟨p, 0, none⟩ = some (ptr m) := (sz.row 1 rfl).cell rfl
         have Hz := Lib.hid sz
         clear sz))
  clear g0 s1
  go_wp2_with fail
  refine wp_region_any (by kernel_rfl) ?_
  change wpAny _ _ _ _ _ _ _ wz.drew
  have Z1 := Lib.hid Hz.out.drew
  generalize wz.drew = d0 at Z1 ⊢
  clear Hz
  have h0 : d0.cell? ⟨p, 3, none⟩ = some (.map (some br)) := (Z1.out.row 1 rfl).cell rfl
  have hp0 := HS.out _ _ (Scope.shut1 (As := postL p m ba br W (σ.put who 6 (resL j)) KC JR F) Z1.out)
  have HP := Lib.hid hp0
  clear hp0
  refine wpAny_of_U (S := fun w' => w'.cell? ⟨p, 3, none⟩ = some (.map (some br))) (U := [0, 1, 2, 3, 4, 5, 6, 7]) _ _ _ _ ?_
  refine wpAnyU_take (i := 0) (v := ?_) rfl (by kernel_rfl) (by kernel_rfl) (by kernel_rfl) (by kernel_rfl) (fun _ _ _ h => h) (Or.inl ⟨by rfl, ?_⟩) h0 ?_
  rotate_left 1
  · (intro w' hS; (try dsimp only at hS); (try simp only [List.getElem_toArray, List.getElem_cons_succ, List.getElem_cons_zero]); go_simp; (try with_reducible rfl))
  try simp only [Act.put, List.getElem_toArray, List.getElem_cons_succ, List.getElem_cons_zero, List.setIfInBounds_toArray, List.set_cons_zero, List.set_cons_succ]
  refine wpAnyU_take (i := 1) (v := ?_) rfl (by kernel_rfl) (by kernel_rfl) (by kernel_rfl) (by kernel_rfl) (fun _ _ _ h => h) (Or.inl ⟨by rfl, ?_⟩) h0 ?_
  rotate_left 1
  · (intro w' hS; (try dsimp only at hS); (try simp only [List.getElem_toArray, List.getElem_cons_succ, List.getElem_cons_zero]); go_simp; (try with_reducible rfl))
  try simp only [Act.put, List.getElem_toArray, List.getElem_cons_succ, List.getElem_cons_zero, List.setIfInBounds_toArray, List.set_cons_zero, List.set_cons_succ]
  refine wpAnyU_take (i := 2) (v := ?_) rfl (by kernel_rfl) (by kernel_rfl) (by kernel_rfl) (by kernel_rfl) (fun _ _ _ h => h) (Or.inl ⟨by rfl, ?_⟩) h0 ?_
  rotate_left 1
  · (intro w' hS; (try dsimp only at hS); (try simp only [List.getElem_toArray, List.getElem_cons_succ, List.getElem_cons_zero]); go_simp; (try with_reducible rfl))
  try simp only [Act.put, List.getElem_toArray, List.getElem_cons_succ, List.getElem_cons_zero, List.setIfInBounds_toArray, List.set_cons_zero, List.set_cons_succ]
  refine wpAnyU_take (i := 3) (v := ?_) rfl (by kernel_rfl) (by kernel_rfl) (by kernel_rfl) (by kernel_rfl) (fun _ _ _ h => h) (Or.inl ⟨by rfl, ?_⟩) h0 ?_
  rotate_left 1
  · (intro w' hS; (try dsimp only at hS); (try simp only [List.getElem_toArray, List.getElem_cons_succ, List.getElem_cons_zero]); go_simp; (try with_reducible rfl))
  try simp only [Act.put, List.getElem_toArray, List.getElem_cons_succ, List.getElem_cons_zero, List.setIfInBounds_toArray, List.set_cons_zero, List.set_cons_succ]
  refine wpAnyU_take (i := 4) (v := ?_) rfl (by kernel_rfl) (by kernel_rfl) (by kernel_rfl) (by kernel_rfl) (fun _ _ _ h => h) (Or.inl ⟨by rfl, ?_⟩) h0 ?_
  rotate_left 1
  · (intro w' hS; (try dsimp only at hS); (try simp only [List.getElem_toArray, List.getElem_cons_succ, List.getElem_cons_zero]); go_simp; (try with_reducible rfl))
  try simp only [Act.put, List.getElem_toArray, List.getElem_cons_succ, List.getElem_cons_zero, List.setIfInBounds_toArray, List.set_cons_zero, List.set_cons_succ]
  refine wpAnyU_take (i := 5) (v := ?_) rfl (by kernel_rfl) (by kernel_rfl) (by kernel_rfl) (by kernel_rfl) (fun _ _ _ h => h) (Or.inl ⟨by rfl, ?_⟩) h0 ?_
  rotate_left 1
  · (intro w' hS; (try dsimp only at hS); (try simp only [List.getElem_toArray, List.getElem_cons_succ, List.getElem_cons_zero]); go_simp; (try with_reducible rfl))
  try simp only [Act.put, List.getElem_toArray, List.getElem_cons_succ, List.getElem_cons_zero, List.setIfInBounds_toArray, List.set_cons_zero, List.set_cons_succ]
  refine wpAnyU_all (rs := [6]) (by kernel_rfl) (by simp) (fun i hi => ?_)
  obtain rfl : i = 6 := by simpa using hi
  refine wpOpU_stepG rfl (by rfl) (fun K hK => ?_)
  go_simp
  refine (own_any HP.out hf).mono ?_
  rintro e w4 ⟨cq, ob, rfl, o1, c1, n1⟩
  have h1 : w4.cell? ⟨p, 3, none⟩ = some (.map (some br)) := c1.cell h0 (by simp)
  have O1 := Lib.hid o1; have C1 := Lib.hid c1; have N1 := Lib.hid n1
  refine hK _ _ ⟨fun _ => h1, ?_⟩
  clear hK K o1 c1 n1 h0
  try simp only [Act.put, List.getElem_toArray, List.getElem_cons_succ, List.getElem_cons_zero, List.setIfInBounds_toArray, List.set_cons_zero, List.set_cons_succ]
  refine wpAnyU_take (i := 7) (v := ?_) rfl (by kernel_rfl) (by kernel_rfl) (by kernel_rfl) (by kernel_rfl) (fun _ _ _ h => h) (Or.inl ⟨by rfl, ?_⟩) h1 ?_
  rotate_left 1
  · (intro w' hS; (try dsimp only at hS); (try simp only [List.getElem_toArray, List.getElem_cons_succ, List.getElem_cons_zero]); go_simp; (try with_reducible rfl))
  try simp only [Act.put, List.getElem_toArray, List.getElem_cons_succ, List.getElem_cons_zero, List.setIfInBounds_toArray, List.set_cons_zero, List.set_cons_succ]
  refine wpAnyU_rest _ _ _ _ (fun j hj => ?_) ?_
  · simp at hj; rcases hj with rfl | rfl | rfl | rfl | rfl | rfl | rfl | rfl <;> rfl
  obtain ⟨k, g, hm, hp⟩ := Z1.out.res_put Hj.out r C1.out O1.out N1.out hf
  have Hp := Lib.hid hp
  obtain ⟨l, hk⟩ := keyOf_int Hj.out
  clear hp h1
  refine wpAny_all (rs := [8]) (by kernel_rfl) (by simp) (fun i hi => ?_)
  obtain rfl : i = 8 := by simpa using hi
  refine wpOpU_step rfl rfl (fun K hK => ?_)
  refine wp_mapUpdate_is _ _ _ 86 rfl 3 95 lawInt Try.underlying86 br k g rfl hm _ _ l rfl rfl hk ?_
  intro w3 m3 c3
  have P3 := Lib.hid (Hp.out w3 m3 c3)
  clear m3 c3
  refine hK _ _ ?_
  clear hK K
  refine wpAny_done (by kernel_rfl) ?_ _
  go_wp2
  go_end0
  exact ⟨rfl, Scope.exi (F := fun F => stars (postL p m ba br W (σ.put who 6 (resL j)) KC (JR ++ [(j, r)]) F)) _ (Scope.shut1 (As := postL p m ba br W (σ.put who 6 (resL j)) KC (JR ++ [(j, r)]) _) P3.out)⟩

def Told20 (S : List Nat) (w0 : World) (r : Rt) (X : HA) (Bs : List HA) (e : Ending) (w' : World) : Prop := ∃ c oa, e = .returned (r.val (.slice oa r.pk.length c)) ∧ Scope S w0 w' (X :: ownA (.slice oa r.pk.length c) 48 3 r.pk.length (pks r.pk) :: Bs)
set_option maxHeartbeats 1000000 in
/-- Result. -/
theorem presult_scope (who : Int) (h : Scope S w0 w (postA p m ba br W σ KC JR :: Bs)) (hw' : I64 who) (hl : σ.log.length ≤ 1000000) :
    Calls Try.prog 18 #[ptr p, .int .i64 who] w (Told20 S w0 (lastOf Rt.zero JR who) (postA p m ba br W (σ.put who 5 (resL who)) KC JR) Bs) := by
  obtain ⟨F, h1⟩ := h.exo
  have q0 := Scope.swap (As := postL p m ba br W σ KC JR F) (Bs := Bs) (Cs := []) (by simpa using h1.open1)
  have s1 : Scope S w0 (w.alloc (.cells #[.int .i64 0, .slice none 0 0, .int .i64 0, .int .u64 0] 41)) (postL p m ba br W σ KC JR F ++ (Bs ++ [box w.heap.size [.int .i64 0, .slice none 0 0, .int .i64 0, .int .u64 0] 41])) := by
    have := (h1.open1).box [.int .i64 0, .slice none 0 0, .int .i64 0, .int .u64 0] 41
    simpa using this
  have c3 : (w.alloc (.cells #[.int .i64 0, .slice none 0 0, .int .i64 0, .int .u64 0] 41)).cell? ⟨p, 3, none⟩ = some (.map (some br)) := (s1.row 1 rfl).cell rfl
  have hrun := s1.res_get hw'
  have g0 : (w.alloc (.cells #[.int .i64 0, .slice none 0 0, .int .i64 0, .int .u64 0] 41)).drew.cell? ⟨p, 0, none⟩ = some (ptr m) := (s1.drew.row 1 rfl).cell rfl
  have S1 := Lib.hid s1.drew; have Hw' := Lib.hid hw'
  clear h h1 hw' q0 s1
  go_enter Try.func18, Try.ntmps18
  go_wp2_with fail
  go_region_held3 (fun w' => w'.cell? ⟨p, 0, none⟩ = some (ptr m)) (go_keep)
    (first
      | (go_at_call 35
         refine ((pat_pure 7 who).at (Hid.out (by assumption))).mono ?_
         rintro e wq ⟨rfl, sq⟩
         have g0 : wq.cell? ⟨p, 0, none⟩ = some (ptr m) := (sq.row 1 rfl).cell rfl
         have Hq := Lib.hid sq
         clear sq)
      | (go_at_call 38
         refine ((read_does who (resL who) hl).at0 (Hid.out (by assumption))).mono ?_
         rintro e wz ⟨rfl, sz⟩
         have g0 : wz.cell? ⟨p, 0, none⟩ = some (ptr m) := (sz.row 1 rfl).cell rfl
         have Hz := Lib.hid sz
         clear sz))
  clear g0 S1 hrun c3
  obtain ⟨hpk, hf⟩ := Hz.out.res_pk Hw'.out
  have HP := Lib.hid hpk
  clear hpk
  generalize hr : lastOf Rt.zero JR who = r at *
  obtain ⟨B, hB⟩ : ∃ B, B = w.heap.size := ⟨_, rfl⟩
  rw [← hB] at Hz
  go_wp2_with fail
  rw [← hB]
  refine (own_any HP.out hf).mono ?_
  rintro e w4 ⟨cq, ob, rfl, o1, c1, n1⟩
  have z4 := Hz.out.joinL (Bs := [ownA (.slice ob r.pk.length cq) 48 3 r.pk.length (pks r.pk)]) (stars_mk1 (A := ownA (.slice ob r.pk.length cq) 48 3 r.pk.length (pks r.pk)) ⟨o1, rfl⟩) c1 (fun k hk => n1 k (by simpa using hk))
  have z5 : Scope S w0 w4 (((ownA (.slice ob r.pk.length cq) 48 3 r.pk.length (pks r.pk) :: postL p m ba br W (σ.put who 5 (resL who)) KC JR F) ++ Bs) ++ ([box B [.int .i64 0, .slice none 0 0, .int .i64 0, .int .u64 0] 41] ++ [])) := by simpa using z4
  have z6 := z5
  obtain ⟨fp, hfp, hd⟩ := Scope.does (As := [box B [.int .i64 0, .slice none 0 0, .int .i64 0, .int .u64 0] 41]) (Bs := ((ownA (.slice ob r.pk.length cq) 48 3 r.pk.length (pks r.pk) :: postL p m ba br W (σ.put who 5 (resL who)) KC JR F) ++ Bs) ++ []) (z5.swap)
  obtain ⟨rg, _⟩ := stars_one hfp
  have f0 := rg.free 0; have f1 := rg.free 1; have f2 := rg.free 2; have f3 := rg.free 3
  obtain ⟨x0, x1, x2, x3⟩ := rg.cells4
  have Rg := Lib.hid rg; have Z5 := Lib.hid z5; have Hr := Lib.hid hr
  clear rg hfp hd z6 z5 z4 o1 c1 n1 Hz hr hB
  go_wp2
  refine bodyPost_ret (results_cell_row rfl _ _ B 41 #[.int .i64 r.e, .slice ob r.pk.length cq, .int .i64 r.n, .int .u64 r.v] (0, 0) _ rfl ((((Rg.out.set 0 (.int .i64 r.e)).set 1 (.slice ob r.pk.length cq)).set 2 (.int .i64 r.n)).set 3 (.int .u64 r.v)) Try.underlying41 rfl (by kernel_rfl)) rfl ?_
  have q1 := Scope.setbox (Bs := []) Z5.out 0 (.int .i64 r.e)
  have q2 := Scope.setbox (Bs := []) q1 1 (.slice ob r.pk.length cq)
  have q3 := Scope.setbox (Bs := []) q2 2 (.int .i64 r.n)
  have q4 := Scope.setbox (Bs := []) q3 3 (.int .u64 r.v)
  have q5 := Scope.drop q4
  have q6 := Scope.swap (As := [ownA (.slice ob r.pk.length cq) 48 3 r.pk.length (pks r.pk)]) (Bs := postL p m ba br W (σ.put who 5 (resL who)) KC JR F) (Cs := Bs) q5
  have q7 := Scope.shut1 (As := postL p m ba br W (σ.put who 5 (resL who)) KC JR F) q6
  exact ⟨cq, ob, rfl, Scope.exi (F := fun F => stars (postL p m ba br W (σ.put who 5 (resL who)) KC JR F)) _ q7⟩

/-! ### New -/
def cl6 (v : Int) : Int := min (max v 1) 6
theorem cl6_b (v : Int) : 1 ≤ cl6 v ∧ cl6 v ≤ 6 := by unfold cl6; omega
theorem askA_new (w : World) : (stars [askA w.heap.size []]).holds (w.alloc (.map #[] 0)) [w.heap.size] :=
  stars_mk1 (A := askA w.heap.size []) ⟨⟨0, fun _ => none, MapIs.made _ _ w, fun _ _ => rfl⟩, rfl⟩
@[reducible] def noF : Int → Value := fun _ => .slice none 0 0
theorem resB_new (w : World) : (stars [resB w.heap.size noF []]).holds (w.alloc (.map #[] 0)) [w.heap.size] :=
  stars_mk1 (A := resB w.heap.size noF []) ⟨by simp, fun k hk => by simp at hk; subst hk; simp, ⟨0, fun _ => none, MapIs.made _ _ w, fun _ _ => rfl⟩, fun o _ => ⟨by unfold few' lastOf; simp [Rt.zero], ⟨rfl, .inl ⟨rfl, rfl⟩⟩, fun k hk => by simp [Value.ownBlock] at hk⟩⟩
theorem Scope.pnew {As : List HA} (h : Scope S w0 w As) {m : Nat} {a x : Int} (hx : x = cl6 a) :
    Scope S w0 (((w.alloc (.map #[] 0)).alloc (.map #[] 0)).alloc (.cells #[ptr m, .int .i64 x, .map (some w.heap.size), .map (some (w.heap.size + 1))] 88)) (As ++ [askA w.heap.size []] ++ [resB (w.heap.size + 1) noF []] ++ [Go.Proofs.Ytjipjhmcpjffcac.box (w.heap.size + 1 + 1) [ptr m, .int .i64 (cl6 a), .map (some w.heap.size), .map (some (w.heap.size + 1))] 88]) := by
  subst hx
  have q1 := h.join (askA_new w) ((Chg.refl _ _).alloc _) (by simp)
  have q2 := q1.join (resB_new (w.alloc (.map #[] 0))) ((Chg.refl _ _).alloc _) (by simp)
  have q3 := q2.box [ptr m, .int .i64 (cl6 a), .map (some w.heap.size), .map (some (w.heap.size + 1))] 88
  simpa using q3
def NewPost20 (S : List Nat) (w0 : World) (As : List HA) (m : Nat) (a : Int) (e : Ending) (w' : World) : Prop := ∃ p ba br, e = .returned (ptr p) ∧ Scope S w0 w' (As ++ [askA ba []] ++ [resB br noF []] ++ [box p [ptr m, .int .i64 (cl6 a), .map (some ba), .map (some br)] 88])
theorem pnew_scope {As : List HA} (h : Scope S w0 w As) (m : Nat) (a : Int) : Calls Try.prog 32 #[ptr m, .int .i64 a] w (NewPost20 S w0 As m a) := by
  have H0 := Lib.hid h
  have hmm := @run_makeMap Try.prog
  clear h
  go_enter Try.func32, Try.ntmps32
  go_wp2
  all_goals (go_ret; exact ⟨w.heap.size + 1 + 1, w.heap.size, w.heap.size + 1, by simp, H0.out.pnew (by unfold cl6; omega)⟩)
/-- The new post, as one thing. -/
theorem Scope.pshut {m p ba br : Nat} {W : Int} {As : List HA} (h : Scope S w0 w ([memA m MS.zero] ++ As ++ [askA ba []] ++ [resB br noF []] ++ [Go.Proofs.Ytjipjhmcpjffcac.box p [ptr m, .int .i64 W, .map (some ba), .map (some br)] 88])) : Scope S w0 w (postA p m ba br W MS.zero [] [] :: As) := by
  generalize hM : memA m MS.zero = M at h
  generalize hA : askA ba [] = A at h
  generalize hR : resB br noF [] = R at h
  generalize hB : Go.Proofs.Ytjipjhmcpjffcac.box p [ptr m, .int .i64 W, .map (some ba), .map (some br)] 88 = B at h
  have h1 : Scope S w0 w ([M] ++ (As ++ ([A, R, B] ++ []))) := by simpa using h
  have h2 : Scope S w0 w (As ++ ([M, A, R, B] ++ [])) := by simpa using h1.swap
  have h3 : Scope S w0 w ([M] ++ ([A, R] ++ ([B] ++ As))) := by simpa using h2.swap
  have h4 : Scope S w0 w ([A, R] ++ ([M] ++ ([B] ++ As))) := h3.swap
  have h5 : Scope S w0 w ([A, R] ++ ([M, B] ++ As)) := h4
  have h6 : Scope S w0 w ([M, B, A, R] ++ As) := by simpa using h5.swap
  subst hM; subst hA; subst hR; subst hB
  exact Scope.exi (F := fun F => stars (postL p m ba br W MS.zero [] [] F)) noF (Scope.shut1 (As := postL p m ba br W MS.zero [] [] noF) h6)
theorem Scope.rpbox {As : List HA} (h : Scope S w0 w As) {x : Nat} {a y : Int} (hy : y = cl6 a) :
    Scope S w0 (w.alloc (.cells #[ptr x, .int .i64 y, .slice none 0 0, .slice none 0 0, .slice none 0 0, .slice none 0 0] 59)) (As ++ [Go.Proofs.Ytjipjhmcpjffcac.box w.heap.size [ptr x, .int .i64 (cl6 a), .slice none 0 0, .slice none 0 0, .slice none 0 0, .slice none 0 0] 59]) := by
  subst hy
  exact h.box [ptr x, .int .i64 (cl6 a), .slice none 0 0, .slice none 0 0, .slice none 0 0, .slice none 0 0] 59
def NewRPost (S : List Nat) (w0 : World) (As : List HA) (x : Nat) (a : Int) (e : Ending) (w' : World) : Prop := ∃ q, e = .returned (ptr q) ∧ Scope S w0 w' (As ++ [box q [ptr x, .int .i64 (cl6 a), .slice none 0 0, .slice none 0 0, .slice none 0 0, .slice none 0 0] 59])
theorem rpnew_scope {As : List HA} (h : Scope S w0 w As) (x : Nat) (a : Int) : Calls Try.prog 33 #[ptr x, .int .i64 a] w (NewRPost S w0 As x a) := by
  have H0 := Lib.hid h
  clear h
  go_enter Try.func33, Try.ntmps33
  go_wp2
  all_goals (go_ret; exact ⟨_, rfl, H0.out.rpbox (by unfold cl6; omega)⟩)
/-- Both, over new memories. -/
def Made20 (S : List Nat) (w0 : World) (As : List HA) (W : Int) (e : Ending) (w' : World) : Prop :=
  ∃ m p ba br q x, e = .returned (.tuple #[ptr m, ptr p, ptr q]) ∧ Scope S w0 w' (postA p m ba br W MS.zero [] [] :: (As ++ [refA x 0 MS.zero] ++ [box q [ptr x, .int .i64 W, .slice none 0 0, .slice none 0 0, .slice none 0 0, .slice none 0 0] 59]))
set_option maxHeartbeats 1000000 in
theorem made20_scope {As : List HA} (h : Scope S w0 w As) (a : Int) : Calls Try.prog 9 #[.int .i64 a] w (Made20 S w0 As (cl6 a)) := by
  have H0 := Lib.hid h
  clear h
  go_enter Try.func9, Try.ntmps9
  go_wp2_with fail
  refine (new_scope H0.out).mono ?_
  rintro e w1 ⟨m, rfl, s1⟩
  have S1 := Lib.hid s1
  clear s1
  go_wp2_with fail
  refine (pnew_scope S1.out m _).mono ?_
  rintro e w2 ⟨p, ba, br, rfl, s2⟩
  have S2 := Lib.hid (ref_new (Scope.pshut s2))
  clear s2
  go_wp2_with fail
  refine (rpnew_scope S2.out _ _).mono ?_
  rintro e w3 ⟨q, rfl, s3⟩
  have S3 := Lib.hid s3
  clear s3
  go_wp2
  go_ret3
  exact ⟨m, p, ba, br, q, _, rfl, S3.out⟩
end
end Go.Proofs.Ytjipjhmcpjffcac
