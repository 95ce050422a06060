/- PostKept: what was handed in as a result, and what is told as one, is apart from what is kept. -/
import Derived.Test.YtjipjhmcpjffcacKept
set_option linter.unusedSimpArgs false
set_option linter.unusedVariables false
set_option maxRecDepth 20000
namespace Go.Proofs.Ytjipjhmcpjffcac
open Go Go.RowKit Go.Maps
theorem Scope.boxL' {S : List Nat} {w0 w : World} {As : List HA} (h : Scope S w0 w As) (vs : List Value) (t : TypeId) : Scope S w0 (w.alloc (.cells vs.toArray t)) (Go.Proofs.Ytjipjhmcpjffcac.box w.heap.size vs t :: As) :=
  h.joinL (Bs := [Go.Proofs.Ytjipjhmcpjffcac.box w.heap.size vs t]) (g := [w.heap.size]) (stars_mk1 (A := Go.Proofs.Ytjipjhmcpjffcac.box w.heap.size vs t) ⟨Row.new w vs t, rfl⟩) ((Chg.refl _ _).alloc _) (by simp)
theorem Scope.gone {S : List Nat} {w0 w w' : World} {g : Nat} {vs : List Value} {t : TypeId} {Bs : List HA} (h : Scope S w0 w (Go.Proofs.Ytjipjhmcpjffcac.box g vs t :: Bs)) (c : Chg [g] w w') : Scope S w0 w' Bs := by
  have h' : Scope S w0 w ([Go.Proofs.Ytjipjhmcpjffcac.box g vs t] ++ Bs) := h
  obtain ⟨fp, hfp, hd⟩ := h'.does
  obtain ⟨_, rfl⟩ := stars_one hfp
  exact hd [] w' ⟨[], rfl, c, fun k hk => (by cases hk)⟩
theorem spoilPk_scope {S : List Nat} {w0 w : World} {v : Value} {n : Nat} {xs : List Value} {Bs : List HA} (h : Scope S w0 w (ownA v 48 3 n xs :: Bs)) (hn : n ≤ 140737488351232) :
    Calls Try.prog 21 #[v] w fun e w' => e = .returned (.tuple #[]) ∧ Scope S w0 w' Bs := by
  have h' : Scope S w0 w ([ownA v 48 3 n xs] ++ Bs) := h
  obtain ⟨fp, hfp, hd⟩ := h'.does
  obtain ⟨ho, rfl⟩ := stars_one hfp
  rcases ownsRow_form ho with ⟨rfl, _⟩ | ⟨g, cap, rfl, _⟩
  · exact spoilPk_none.mono fun _ w' ⟨he, hc⟩ => ⟨he, hd [] w' ⟨[], rfl, (Chg.refl _ _).quiet hc, fun k hk => (by cases hk)⟩⟩
  · exact (spoilPk_rows ho hn).mono fun _ w' ⟨he, hc⟩ => ⟨he, hd [] w' ⟨[], rfl, hc, fun k hk => (by cases hk)⟩⟩
@[reducible] def f7 : Pk := ⟨0, 0, 7⟩

set_option maxHeartbeats 8000000 in
set_option maxRecDepth 20000 in
theorem postKept_row {w : World} (a j : Int) (r : Rt) (s : Value) (ha : I64 a) (hj : I64 j) (hok : r.ok) (hs : PkS w s r.pk) :
    Calls Try.prog 4 #[.int .i64 a, .int .i64 j, r.val s] w fun e w' => e = .returned (.bool true) ∧ Below w.heap.size w w' := by
  obtain ⟨oa, cp, es⟩ := hs.form
  obtain ⟨n, hn⟩ : ∃ n, n = r.pk.length := ⟨_, rfl⟩
  have hf := hok.2.2
  have hn1 : n ≤ 140737488351232 := by unfold few' at hf; omega
  have own0 := fun (W : World) (h : PkS W (.slice oa n cp) r.pk) => ownPk_any h hf f7
  have kept0 := fun (W : World) (G : Nat) (hr : Row W G (pks (r.pk ++ [f7, f7, f7])) 48) (h : PkS W (.slice oa n cp) r.pk) => keptPk_any f7 hr h hf
  have pk0 : ∀ (W : World) (G : Nat), Row W G (pks (r.pk ++ [f7, f7, f7])) 48 → W.ownsRow 0 48 3 (.slice (some ⟨G, 0, none⟩) r.pk.length (r.pk.length + 3)) r.pk.length (pks r.pk) := fun W G h =>
    owns_of_row h (by rw [pks_length]; simp) (by rw [pks_append, List.take_append_of_le_length (by rw [pks_length]; exact Nat.le_refl _), List.take_of_length_le (by rw [pks_length]; exact Nat.le_refl _)]) (by omega) (by unfold maxLen; omega)
  rw [← hn] at es
  rw [← hn] at own0 kept0 pk0
  have HN := Lib.hid hn
  clear hn
  subst es
  have HS := Lib.hid hs; have Hj := Lib.hid hj; have Hf := Lib.hid hf; have Own0 := Lib.hid own0; have Kept0 := Lib.hid kept0; have Pk0 := Lib.hid pk0
  have S0 := Lib.hid ((Scope.empty w).boxL' [.int .i64 r.e, .slice oa n cp, .int .i64 r.n, .int .u64 r.v] 41)
  clear hs hj hf own0 kept0 pk0 hok
  go_enter Try.func4, Try.ntmps4
  go_wp2_with fail
  generalize w.alloc _ = V0 at S0 ⊢
  generalize w.heap.size = B5 at S0 ⊢
  refine (made20_scope S0.out a).mono ?_
  rintro e w1 ⟨m, p, ba, br, q, x, rfl, s1⟩
  have S1 := Lib.hid s1
  clear s1 S0
  generalize cl6 a = W at S1 ⊢
  go_wp2_with fail
  refine (awake20_scope S1.out).mono ?_
  rintro e w2 ⟨rfl, s2⟩
  obtain ⟨x0, x1, x2, x3⟩ := (s2.rowm (k := B5) (vs := [.int .i64 r.e, .slice oa n cp, .int .i64 r.n, .int .u64 r.v]) (t := 41) (by simp)).cells4
  have S2 := Lib.hid ((s2.boxL' [.int .i64 r.e, .slice oa n cp, .int .i64 r.n, .int .u64 r.v] 41).swap2)
  obtain ⟨z0, z1, z2, z3⟩ := (S2.out.rowm (k := B5) (vs := [.int .i64 r.e, .slice oa n cp, .int .i64 r.n, .int .u64 r.v]) (t := 41) (by simp)).cells4
  clear s2 S1
  go_wp2_with fail
  clear x0 x1 x2 x3 z0 z1 z2 z3
  generalize w2.alloc _ = V2 at S2 ⊢
  generalize w2.heap.size = B10 at S2 ⊢
  refine (Own0.out V2 (HS.out.chg S2.out.1)).mono ?_
  rintro e w3 ⟨G, rfl, hrow, hc3, hG⟩
  have S3 := Lib.hid (S2.out.joinL (Bs := [box G (pks (r.pk ++ [f7, f7, f7])) 48]) (stars_mk1 (A := box G (pks (r.pk ++ [f7, f7, f7])) 48) ⟨hrow, rfl⟩) hc3 (fun k hk => by simp at hk; omega))
  have r10 := S3.out.rowm (k := B10) (vs := [.int .i64 r.e, .slice oa n cp, .int .i64 r.n, .int .u64 r.v]) (t := 41) (by simp)
  have f1 := r10.free 1
  obtain ⟨x0, x1, x2, x3⟩ := r10.cells4
  clear hrow hc3 hG r10 S2
  have S4 := Lib.hid (Scope.swap2 (Scope.setbox (As := [box G _ _, postA _ _ _ _ _ _ _ _]) S3.out 1 (.slice (some ⟨G, 0, none⟩) n (n + 3))))
  clear S3
  go_wp2_with fail
  clear f1 x0 x1 x2 x3
  refine (panswer_scope 0 j r (.slice (some ⟨G, 0, none⟩) n (n + 3)) S4.out Hj.out (fun X w' h => by
    have hrw := Pk0.out w' G (h.row 1 rfl)
    have := HN.out
    rw [this] at hrw ⊢
    exact PkS.of_owns hrw) Hf.out (by simp [MS.zero])).mono ?_
  rintro e w4 ⟨rfl, s4⟩
  obtain ⟨x0, x1, x2, x3⟩ := (s4.rowm (k := B10) (vs := [.int .i64 r.e, .slice (some ⟨G, 0, none⟩) n (n + 3), .int .i64 r.n, .int .u64 r.v]) (t := 41) (by simp)).cells4
  obtain ⟨z0, z1, z2, z3⟩ := (s4.rowm (k := B5) (vs := [.int .i64 r.e, .slice oa n cp, .int .i64 r.n, .int .u64 r.v]) (t := 41) (by simp)).cells4
  have S5 := Lib.hid s4
  clear s4 S4
  have l5 : (MS.zero.put 0 6 (resL j)).log.length ≤ 1 := by simp [MS.put, MS.zero]
  generalize MS.zero.put 0 6 (resL j) = σ5 at S5 l5
  go_wp2_with fail
  refine (Kept0.out w4 G (S5.out.row 1 rfl) (HS.out.chg S5.out.1)).mono ?_
  rintro e w5 ⟨rfl, c5⟩
  have S6 := Lib.hid (S5.out.quiet c5)
  clear x0 x1 x2 x3 z0 z1 z2 z3 c5 S5
  obtain ⟨x0, x1, x2, x3⟩ := (S6.out.rowm (k := B10) (vs := [.int .i64 r.e, .slice (some ⟨G, 0, none⟩) n (n + 3), .int .i64 r.n, .int .u64 r.v]) (t := 41) (by simp)).cells4
  go_wp2_with fail
  refine (spoilPk_rows (Pk0.out w5 G (S6.out.row 1 rfl)) hn1).mono ?_
  rintro e w6 ⟨rfl, c6⟩
  have S7 := Lib.hid (Scope.gone (Scope.swap2 S6.out) c6)
  clear c6 x0 x1 x2 x3 S6
  go_wp2_with fail
  refine (presult_scope j S7.out Hj.out (by omega)).mono ?_
  rintro e w7 ⟨c7, o7, he, s7⟩
  rw [lastOf_snoc, if_pos rfl] at he s7
  subst he
  have S8 := Lib.hid ((s7.boxL' [.int .i64 r.e, .slice o7 r.pk.length c7, .int .i64 r.n, .int .u64 r.v] 41).swap2)
  have l8 : (σ5.put j 5 (resL j)).log.length ≤ 2 := by simp [MS.put]; exact l5
  generalize σ5.put j 5 (resL j) = σ8 at S8 l8
  obtain ⟨z0, z1, z2, z3⟩ := (S8.out.rowm (k := B5) (vs := [.int .i64 r.e, .slice oa n cp, .int .i64 r.n, .int .u64 r.v]) (t := 41) (by simp)).cells4
  obtain ⟨x0, x1, x2, x3⟩ := (S8.out.row 1 rfl).cells4
  clear s7 S7
  go_wp2_with fail
  clear z0 z1 z2 z3 x0 x1 x2 x3
  generalize w7.alloc _ = V8 at S8 ⊢
  generalize w7.heap.size = B11 at S8 ⊢
  refine (retEq_any (a := r) (b := r) (PkS.of_owns (S8.out.owned' 2 rfl)) (HS.out.chg S8.out.1) Hf.out).mono ?_
  rintro e w9 ⟨he, c9⟩
  rw [decide_eq_true rfl] at he
  subst he
  have S9 := Lib.hid (S8.out.quiet c9)
  clear c9 S8
  obtain ⟨x0, x1, x2, x3⟩ := (S9.out.row 1 rfl).cells4
  go_wp2_with fail
  refine (spoilPk_scope (Scope.swap (As := [postA _ _ _ _ _ _ _ _, box B11 _ _]) (Bs := [ownA _ _ _ _ _]) S9.out) (by have := HN.out; omega)).mono ?_
  rintro e w10 ⟨rfl, s10⟩
  have S10 := Lib.hid (show Scope [] w w10.drew _ from s10.drew)
  clear s10 x0 x1 x2 x3 S9
  have h0 : w10.drew.cell? ⟨B5, 0, none⟩ = some (.int .i64 r.e) ∧ w10.drew.cell? ⟨B5, 1, none⟩ = some (.slice oa n cp) ∧ w10.drew.cell? ⟨B5, 2, none⟩ = some (.int .i64 r.n) ∧ w10.drew.cell? ⟨B5, 3, none⟩ = some (.int .u64 r.v) := (S10.out.rowm (k := B5) (vs := [.int .i64 r.e, .slice oa n cp, .int .i64 r.n, .int .u64 r.v]) (t := 41) (by simp)).cells4
  go_wp2_with fail
  refine wp_region_any (by kernel_rfl) ?_
  change wpAny _ _ _ _ _ _ _ (World.drew _)
  refine wpAny_of_U (S := fun w' => w'.cell? ⟨B5, 0, none⟩ = some (.int .i64 r.e) ∧ w'.cell? ⟨B5, 1, none⟩ = some (.slice oa n cp) ∧ w'.cell? ⟨B5, 2, none⟩ = some (.int .i64 r.n) ∧ w'.cell? ⟨B5, 3, none⟩ = some (.int .u64 r.v)) (U := [0, 1, 2, 3, 4, 5, 6, 7]) _ _ _ _ ?_
  refine wpAnyU_take (i := 0) (v := ?_) rfl (by kernel_rfl) (by kernel_rfl) (by kernel_rfl) (by kernel_rfl) (fun _ _ _ h => h) (Or.inl ⟨by rfl, ?_⟩) h0 ?_
  rotate_left 1
  · (intro w' hS; (try dsimp only at hS); (try simp only [List.getElem_toArray, List.getElem_cons_succ, List.getElem_cons_zero]); go_simp; (try with_reducible rfl))
  try simp only [Act.put, List.getElem_toArray, List.getElem_cons_succ, List.getElem_cons_zero, List.setIfInBounds_toArray, List.set_cons_zero, List.set_cons_succ]
  refine wpAnyU_take (i := 1) (v := ?_) rfl (by kernel_rfl) (by kernel_rfl) (by kernel_rfl) (by kernel_rfl) (fun _ _ _ h => h) (Or.inl ⟨by rfl, ?_⟩) h0 ?_
  rotate_left 1
  · (intro w' hS; (try dsimp only at hS); (try simp only [List.getElem_toArray, List.getElem_cons_succ, List.getElem_cons_zero]); go_simp; (try with_reducible rfl))
  try simp only [Act.put, List.getElem_toArray, List.getElem_cons_succ, List.getElem_cons_zero, List.setIfInBounds_toArray, List.set_cons_zero, List.set_cons_succ]
  refine wpAnyU_take (i := 2) (v := ?_) rfl (by kernel_rfl) (by kernel_rfl) (by kernel_rfl) (by kernel_rfl) (fun _ _ _ h => h) (Or.inl ⟨by rfl, ?_⟩) h0 ?_
  rotate_left 1
  · (intro w' hS; (try dsimp only at hS); (try simp only [List.getElem_toArray, List.getElem_cons_succ, List.getElem_cons_zero]); go_simp; (try with_reducible rfl))
  try simp only [Act.put, List.getElem_toArray, List.getElem_cons_succ, List.getElem_cons_zero, List.setIfInBounds_toArray, List.set_cons_zero, List.set_cons_succ]
  refine wpAnyU_take (i := 3) (v := ?_) rfl (by kernel_rfl) (by kernel_rfl) (by kernel_rfl) (by kernel_rfl) (fun _ _ _ h => h) (Or.inl ⟨by rfl, ?_⟩) h0 ?_
  rotate_left 1
  · (intro w' hS; (try dsimp only at hS); (try simp only [List.getElem_toArray, List.getElem_cons_succ, List.getElem_cons_zero]); go_simp; (try with_reducible rfl))
  try simp only [Act.put, List.getElem_toArray, List.getElem_cons_succ, List.getElem_cons_zero, List.setIfInBounds_toArray, List.set_cons_zero, List.set_cons_succ]
  refine wpAnyU_take (i := 5) (v := ?_) rfl (by kernel_rfl) (by kernel_rfl) (by kernel_rfl) (by kernel_rfl) (fun _ _ _ h => h) (Or.inl ⟨by rfl, ?_⟩) h0 ?_
  rotate_left 1
  · (intro w' hS; (try dsimp only at hS); (try simp only [List.getElem_toArray, List.getElem_cons_succ, List.getElem_cons_zero]); go_simp; (try with_reducible rfl))
  try simp only [Act.put, List.getElem_toArray, List.getElem_cons_succ, List.getElem_cons_zero, List.setIfInBounds_toArray, List.set_cons_zero, List.set_cons_succ]
  refine wpAnyU_all (rs := [4]) (by kernel_rfl) (by simp) (fun i hi => ?_)
  obtain rfl : i = 4 := by simpa using hi
  refine wpOpU_stepG rfl (by rfl) (fun K hK => ?_)
  go_simp
  refine (presult_scope j S10.out Hj.out (by omega)).mono ?_
  rintro e w11 ⟨c11, o11, he, s11⟩
  rw [lastOf_snoc, if_pos rfl] at he s11
  subst he
  have h1 : w11.cell? ⟨B5, 0, none⟩ = some (.int .i64 r.e) ∧ w11.cell? ⟨B5, 1, none⟩ = some (.slice oa n cp) ∧ w11.cell? ⟨B5, 2, none⟩ = some (.int .i64 r.n) ∧ w11.cell? ⟨B5, 3, none⟩ = some (.int .u64 r.v) := (s11.rowm (k := B5) (vs := [.int .i64 r.e, .slice oa n cp, .int .i64 r.n, .int .u64 r.v]) (t := 41) (by simp)).cells4
  have S11 := Lib.hid s11
  refine hK _ _ ⟨fun _ => h1, ?_⟩
  clear hK K s11 h0 S10
  try simp only [Act.put, List.getElem_toArray, List.getElem_cons_succ, List.getElem_cons_zero, List.setIfInBounds_toArray, List.set_cons_zero, List.set_cons_succ]
  refine wpAnyU_all (rs := [6]) (by kernel_rfl) (by simp) (fun i hi => ?_)
  obtain rfl : i = 6 := by simpa using hi
  refine wpOpU_stepG rfl (by rfl) (fun K hK => ?_)
  go_simp
  refine (retEq_any (a := r) (b := r) (PkS.of_owns (S11.out.owned' 1 rfl)) (HS.out.chg S11.out.1) Hf.out).mono ?_
  rintro e w12 ⟨he, c12⟩
  rw [decide_eq_true rfl] at he
  subst he
  have h2 : w12.cell? ⟨B5, 0, none⟩ = some (.int .i64 r.e) ∧ w12.cell? ⟨B5, 1, none⟩ = some (.slice oa n cp) ∧ w12.cell? ⟨B5, 2, none⟩ = some (.int .i64 r.n) ∧ w12.cell? ⟨B5, 3, none⟩ = some (.int .u64 r.v) := ⟨c12.cell h1.1 (by simp), c12.cell h1.2.1 (by simp), c12.cell h1.2.2.1 (by simp), c12.cell h1.2.2.2 (by simp)⟩
  have S12 := Lib.hid (S11.out.quiet c12)
  refine hK _ _ ⟨fun _ => h2, ?_⟩
  clear hK K c12 h1 S11
  try simp only [Act.put, List.getElem_toArray, List.getElem_cons_succ, List.getElem_cons_zero, List.setIfInBounds_toArray, List.set_cons_zero, List.set_cons_succ]
  refine wpAnyU_take (i := 7) (v := ?_) rfl (by kernel_rfl) (by kernel_rfl) (by kernel_rfl) (by kernel_rfl) (fun _ _ _ h => h) (Or.inl ⟨by rfl, ?_⟩) h2 ?_
  rotate_left 1
  · (intro w' hS; (try dsimp only at hS); (try simp only [List.getElem_toArray, List.getElem_cons_succ, List.getElem_cons_zero]); go_simp; (try with_reducible rfl))
  try simp only [Act.put, List.getElem_toArray, List.getElem_cons_succ, List.getElem_cons_zero, List.setIfInBounds_toArray, List.set_cons_zero, List.set_cons_succ]
  refine wpAnyU_rest _ _ _ _ (fun j hj => ?_) ?_
  · simp at hj; rcases hj with rfl | rfl | rfl | rfl | rfl | rfl | rfl | rfl <;> rfl
  refine wpAny_all (rs := [8]) (by kernel_rfl) (by simp) (fun i hi => ?_)
  obtain rfl : i = 8 := by simpa using hi
  refine wpOpU_stepG rfl (by rfl) (fun K hK => ?_)
  go_simp
  refine hK _ _ ?_
  clear hK K
  try simp only [Act.put, List.getElem_toArray, List.getElem_cons_succ, List.getElem_cons_zero, List.setIfInBounds_toArray, List.set_cons_zero, List.set_cons_succ]
  refine wpAny_done (by kernel_rfl) ?_ _
  clear h2
  go_wp2
  go_ret
  exact ⟨rfl, S12.out.below⟩
end Go.Proofs.Ytjipjhmcpjffcac
