/- awake of layer 20. -/
import Derived.Test.YtjipjhmcpjffcacPostB
set_option linter.unusedSimpArgs false
set_option linter.unusedVariables false
set_option maxRecDepth 20000
namespace Go.Proofs.Ytjipjhmcpjffcac
open Go Go.RowKit Go.Maps
@[go_sem] theorem field_ret2 (a b d : Value) (n : Int) (w : World) : (Instr.field 41 (.agg #[a, b, .int .i64 n, d]) 2).run Try.prog w = .ok (.int .i64 n) w := by kernel_rfl
/-- Two calls held against each other. -/
theorem equal_call (x y : Cl) (w : World) : (Op.equalIn 10000 32 x.val y.val).run Try.prog w = .ok (decide (x = y)) w := by
  have e : decide (x = y) = (x.op == y.op && (x.flow == y.flow && (x.a == y.a && x.b == y.b))) := by
    rw [Bool.eq_iff_iff]
    cases x; cases y
    simp
  rw [e]
  simp [go_sem]
  cases h1 : x.op == y.op <;> cases h2 : x.flow == y.flow <;> cases h3 : x.a == y.a <;> cases h4 : x.b == y.b <;> simp_all
theorem equal_call_same (x : Cl) (w : World) : (Op.equalIn 10000 32 (.agg #[.int .i64 x.op, .int .i64 x.flow, .int .i64 x.a, .int .i64 x.b]) (.agg #[.int .i64 x.op, .int .i64 x.flow, .int .i64 x.a, .int .i64 x.b])).run Try.prog w = .ok true w := by
  have := equal_call x x w
  rwa [decide_eq_true rfl] at this
theorem tmod_b' (a : Int) : -3 < a.tmod 3 ∧ a.tmod 3 < 3 := by
  refine ⟨?_, Int.tmod_lt_of_pos a (by omega)⟩
  by_cases h : a < 0
  · have h1 := Int.tmod_lt_of_pos (-a) (b := 3) (by omega)
    rw [Int.neg_tmod] at h1
    omega
  · have := Int.tmod_nonneg 3 (Int.not_lt.1 h)
    omega
/-- What is known of a memory under a post: how many events, the state of ask j, the lock. -/
structure PSt (σ : MS) (n : Nat) (j rq lk : Int) : Prop where
  len : σ.log.length = n
  rq : σ.num (reqL j) = rq
  lk : σ.num lockL = lk
section
variable {σ : MS} {n : Nat} {j a b : Int}
theorem PSt.zero (j : Int) : PSt MS.zero 0 j 0 0 := ⟨rfl, rfl, rfl⟩
theorem PSt.put (h : PSt σ n j a b) (who k : Int) (l : Lc) : PSt (σ.put who k l) (n + 1) j a b := ⟨by simp [MS.put, h.len], h.rq, h.lk⟩
theorem PSt.req (h : PSt σ n j a b) (v : Int) : PSt (σ.set (reqL j) v) n j v b := ⟨h.len, by simp [MS.set], by simp [MS.set]; exact h.lk⟩
theorem PSt.lock (h : PSt σ n j a b) (v : Int) : PSt (σ.set lockL v) n j a v := ⟨h.len, by simp [MS.set]; exact h.rq, by simp [MS.set]⟩
theorem PSt.try0 (h : PSt σ n j a 0) (who : Int) : PSt (σ.swap who lockL 0 1) (n + 1) j a 1 := by
  unfold MS.swap
  rw [if_pos h.lk]
  exact (h.put who 3 lockL).lock 1
theorem PSt.try1 (h : PSt σ n j a 1) (who : Int) : PSt (σ.swap who lockL 0 1) (n + 1) j a 1 := by
  unfold MS.swap
  rw [if_neg (by rw [h.lk]; decide)]
  exact h.put who 4 lockL
theorem PSt.le (h : PSt σ n j a b) {k : Nat} (hk : n ≤ k) : σ.log.length ≤ k := by rw [h.len]; exact hk
end
theorem lockd0 {σ : MS} {n : Nat} {j a : Int} (h : PSt σ n j a 0) : decide (σ.num lockL = 0) = true := by rw [h.lk]; rfl
theorem lockd1 {σ : MS} {n : Nat} {j a : Int} (h : PSt σ n j a 1) : decide (σ.num lockL = 0) = false := by rw [h.lk]; rfl

set_option maxHeartbeats 1000000 in
theorem awake20_any (w : World) : Calls Try.prog 10 #[] w fun e w' => e = .returned (.bool true) ∧ Chg [] w w' := by
  have i0 := Lib.hid (show I64 0 from by unfold I64; omega)
  go_enter Try.func10, Try.ntmps10
  go_wp2_with fail
  refine (new_scope (Scope.empty w)).mono ?_
  rintro e w1 ⟨m, rfl, s1⟩
  have S1 := Lib.hid s1
  clear s1
  go_wp2_with fail
  refine (pnew_scope S1.out m 2).mono ?_
  rintro e w2 ⟨p, ba, br, rfl, s2⟩
  rw [show cl6 2 = 2 from by decide] at s2
  have S2 := Lib.hid (Scope.pshut s2)
  clear s2 S1
  have P2 := Lib.hid (PSt.zero 0)
  generalize MS.zero = σ2 at S2 P2
  go_wp2_with fail
  refine (pworkers_does.at0 S2.out).mono ?_
  rintro e w3 ⟨rfl, s3⟩
  have S3 := Lib.hid s3
  clear s3 S2
  go_wp2_with fail
  have S4 := Lib.hid (show Scope [] w (w3.alloc (.cells #[.int .i64 4, .int .i64 0, .int .i64 0, .int .i64 0] 32)) [postA p m ba br 2 σ2 [] [], box w3.heap.size [.int .i64 4, .int .i64 0, .int .i64 0, .int .i64 0] 32] from S3.out.box [.int .i64 4, .int .i64 0, .int .i64 0, .int .i64 0] 32)
  clear S3
  generalize w3.alloc _ = w4 at S4 ⊢
  generalize w3.heap.size = B at S4 ⊢
  obtain ⟨x0, x1, x2, x3⟩ := (S4.out.row 1 rfl).cells4
  go_wp2_with fail
  refine ((pask_does 0 ⟨4, 0, 0, 0⟩ i0.out (P2.out.le (by omega))).at0 S4.out).mono ?_
  rintro e w5 ⟨rfl, s5⟩
  have P5 := Lib.hid (P2.out.put 0 6 (argL 0))
  have S5 := Lib.hid s5
  clear s5 S4 x0 x1 x2 x3
  generalize σ2.put 0 6 (argL 0) = σ5 at S5 P5
  go_wp2_with fail
  refine ((psend_does 0 i0.out (P5.out.le (by omega))).at0 S5.out).mono ?_
  rintro e w6 ⟨rfl, s6⟩
  have P6 := Lib.hid ((P5.out.put 0 2 (reqL 0)).req 1)
  have S6 := Lib.hid s6.drew
  clear s6 S5
  generalize (σ5.put 0 2 (reqL 0)).set (reqL 0) 1 = σ6 at S6 P6
  go_wp2_with fail
  refine wp_region_any (by kernel_rfl) ?_
  change wpAny _ _ _ _ _ _ _ (World.drew _)
  have h0 : w6.drew.cell? ⟨B, 0, none⟩ = some (.int .i64 4) ∧ w6.drew.cell? ⟨B, 1, none⟩ = some (.int .i64 0) ∧ w6.drew.cell? ⟨B, 2, none⟩ = some (.int .i64 0) ∧ w6.drew.cell? ⟨B, 3, none⟩ = some (.int .i64 0) := (S6.out.row 1 rfl).cells4
  generalize w6.drew = d6 at S6 h0 ⊢
  refine wpAny_of_U (S := fun w' => w'.cell? ⟨B, 0, none⟩ = some (.int .i64 4) ∧ w'.cell? ⟨B, 1, none⟩ = some (.int .i64 0) ∧ w'.cell? ⟨B, 2, none⟩ = some (.int .i64 0) ∧ w'.cell? ⟨B, 3, none⟩ = some (.int .i64 0)) (U := [0, 1, 2, 3, 4, 5, 6, 7, 8, 9, 10, 11, 12, 13, 14, 15, 16, 17]) _ _ _ _ ?_
  refine wpAnyU_take (i := 0) (v := ?_) rfl (by kernel_rfl) (by kernel_rfl) (by kernel_rfl) (by kernel_rfl) (fun _ _ _ h => h) (Or.inl ⟨by rfl, ?_⟩) h0 ?_
  rotate_left 1
  · (intro w' hS; (try dsimp only at hS); (try simp only [List.getElem_toArray, List.getElem_cons_succ, List.getElem_cons_zero]); go_simp; (try with_reducible rfl))
  try simp only [Act.put, List.getElem_toArray, List.getElem_cons_succ, List.getElem_cons_zero, List.setIfInBounds_toArray, List.set_cons_zero, List.set_cons_succ]
  refine wpAnyU_all (rs := [1]) (by kernel_rfl) (by simp) (fun i hi => ?_)
  obtain rfl : i = 1 := by simpa using hi
  refine wpOpU_stepG rfl (by rfl) (fun K hK => ?_)
  go_simp
  refine ((pstate_does 1 0 i0.out (P6.out.le (by omega))).at0 S6.out).mono ?_
  rintro e w7 ⟨he, s7⟩
  rw [P6.out.rq] at he
  subst he
  have h7 : w7.cell? ⟨B, 0, none⟩ = some (.int .i64 4) ∧ w7.cell? ⟨B, 1, none⟩ = some (.int .i64 0) ∧ w7.cell? ⟨B, 2, none⟩ = some (.int .i64 0) ∧ w7.cell? ⟨B, 3, none⟩ = some (.int .i64 0) := (s7.row 1 rfl).cells4
  have P7 := Lib.hid (P6.out.put 1 1 (reqL 0)); have S7 := Lib.hid s7
  refine hK _ _ ⟨fun _ => h7, ?_⟩
  clear hK K s7 S6 h0
  generalize σ6.put 1 1 (reqL 0) = σ7 at S7 P7
  try simp only [Act.put, List.getElem_toArray, List.getElem_cons_succ, List.getElem_cons_zero, List.setIfInBounds_toArray, List.set_cons_zero, List.set_cons_succ]
  refine wpAnyU_take (i := 2) (v := ?_) rfl (by kernel_rfl) (by kernel_rfl) (by kernel_rfl) (by kernel_rfl) (fun _ _ _ h => h) (Or.inl ⟨by rfl, ?_⟩) h7 ?_
  rotate_left 1
  · (intro w' hS; (try dsimp only at hS); (try simp only [List.getElem_toArray, List.getElem_cons_succ, List.getElem_cons_zero]); go_simp; (try with_reducible rfl))
  try simp only [Act.put, List.getElem_toArray, List.getElem_cons_succ, List.getElem_cons_zero, List.setIfInBounds_toArray, List.set_cons_zero, List.set_cons_succ]
  refine wpAnyU_take (i := 3) (v := ?_) rfl (by kernel_rfl) (by kernel_rfl) (by kernel_rfl) (by kernel_rfl) (fun _ _ _ h => h) (Or.inl ⟨by rfl, ?_⟩) h7 ?_
  rotate_left 1
  · (intro w' hS; (try dsimp only at hS); (try simp only [List.getElem_toArray, List.getElem_cons_succ, List.getElem_cons_zero]); go_simp; (try with_reducible rfl))
  try simp only [Act.put, List.getElem_toArray, List.getElem_cons_succ, List.getElem_cons_zero, List.setIfInBounds_toArray, List.set_cons_zero, List.set_cons_succ]
  refine wpAnyU_take (i := 4) (v := ?_) rfl (by kernel_rfl) (by kernel_rfl) (by kernel_rfl) (by kernel_rfl) (fun _ _ _ h => h) (Or.inl ⟨by rfl, ?_⟩) h7 ?_
  rotate_left 1
  · (intro w' hS; (try dsimp only at hS); (try simp only [List.getElem_toArray, List.getElem_cons_succ, List.getElem_cons_zero]); go_simp; (try with_reducible rfl))
  try simp only [Act.put, List.getElem_toArray, List.getElem_cons_succ, List.getElem_cons_zero, List.setIfInBounds_toArray, List.set_cons_zero, List.set_cons_succ]
  refine wpAnyU_take (i := 6) (v := ?_) rfl (by kernel_rfl) (by kernel_rfl) (by kernel_rfl) (by kernel_rfl) (fun _ _ _ h => h) (Or.inl ⟨by rfl, ?_⟩) h7 ?_
  rotate_left 1
  · (intro w' hS; (try dsimp only at hS); (try simp only [List.getElem_toArray, List.getElem_cons_succ, List.getElem_cons_zero]); go_simp; (try with_reducible rfl))
  try simp only [Act.put, List.getElem_toArray, List.getElem_cons_succ, List.getElem_cons_zero, List.setIfInBounds_toArray, List.set_cons_zero, List.set_cons_succ]
  refine wpAnyU_all (rs := [5]) (by kernel_rfl) (by simp) (fun i hi => ?_)
  obtain rfl : i = 5 := by simpa using hi
  refine wpOpU_stepG rfl (by rfl) (fun K hK => ?_)
  go_simp
  refine ((parg_does 1 0 i0.out (P7.out.le (by omega))).at0 S7.out).mono ?_
  rintro e w8 ⟨he, s8⟩
  have he := he.trans (congrArg Ending.returned (show (lastOf Cl.zero ([] ++ [((0 : Int), (⟨4, 0, 0, 0⟩ : Cl))]) 0).val = .agg #[.int .i64 4, .int .i64 0, .int .i64 0, .int .i64 0] from rfl))
  subst he
  have h8 : w8.cell? ⟨B, 0, none⟩ = some (.int .i64 4) ∧ w8.cell? ⟨B, 1, none⟩ = some (.int .i64 0) ∧ w8.cell? ⟨B, 2, none⟩ = some (.int .i64 0) ∧ w8.cell? ⟨B, 3, none⟩ = some (.int .i64 0) := (s8.row 1 rfl).cells4
  have P8 := Lib.hid (P7.out.put 1 5 (argL 0)); have S8 := Lib.hid s8
  refine hK _ _ ⟨fun _ => h8, ?_⟩
  clear hK K s8 S7 h7
  generalize σ7.put 1 5 (argL 0) = σ8 at S8 P8
  try simp only [Act.put, List.getElem_toArray, List.getElem_cons_succ, List.getElem_cons_zero, List.setIfInBounds_toArray, List.set_cons_zero, List.set_cons_succ]
  refine wpAnyU_take (i := 7) (v := ?_) rfl (by kernel_rfl) (by kernel_rfl) (by kernel_rfl) (by kernel_rfl) (fun _ _ _ h => h) (Or.inl ⟨by rfl, ?_⟩) h8 ?_
  rotate_left 1
  · (intro w' hS; (try dsimp only at hS); (try simp only [List.getElem_toArray, List.getElem_cons_succ, List.getElem_cons_zero]); go_simp; (try with_reducible rfl))
  try simp only [Act.put, List.getElem_toArray, List.getElem_cons_succ, List.getElem_cons_zero, List.setIfInBounds_toArray, List.set_cons_zero, List.set_cons_succ]
  refine wpAnyU_take (i := 8) (v := ?_) rfl (by kernel_rfl) (by kernel_rfl) (by kernel_rfl) (by kernel_rfl) (fun _ _ _ h => h) (Or.inl ⟨by rfl, ?_⟩) h8 ?_
  rotate_left 1
  · (intro w' hS; (try dsimp only at hS); (try simp only [List.getElem_toArray, List.getElem_cons_succ, List.getElem_cons_zero]); go_simp; (try with_reducible rfl))
  try simp only [Act.put, List.getElem_toArray, List.getElem_cons_succ, List.getElem_cons_zero, List.setIfInBounds_toArray, List.set_cons_zero, List.set_cons_succ]
  refine wpAnyU_take (i := 9) (v := ?_) rfl (by kernel_rfl) (by kernel_rfl) (by kernel_rfl) (by kernel_rfl) (fun _ _ _ h => h) (Or.inl ⟨by rfl, ?_⟩) h8 ?_
  rotate_left 1
  · (intro w' hS; (try dsimp only at hS); (try simp only [List.getElem_toArray, List.getElem_cons_succ, List.getElem_cons_zero]); go_simp; (try with_reducible rfl))
  try simp only [Act.put, List.getElem_toArray, List.getElem_cons_succ, List.getElem_cons_zero, List.setIfInBounds_toArray, List.set_cons_zero, List.set_cons_succ]
  refine wpAnyU_take (i := 10) (v := ?_) rfl (by kernel_rfl) (by kernel_rfl) (by kernel_rfl) (by kernel_rfl) (fun _ _ _ h => h) (Or.inl ⟨by rfl, ?_⟩) h8 ?_
  rotate_left 1
  · (intro w' hS; (try dsimp only at hS); (try simp only [List.getElem_toArray, List.getElem_cons_succ, List.getElem_cons_zero]); go_simp; (try with_reducible rfl))
  try simp only [Act.put, List.getElem_toArray, List.getElem_cons_succ, List.getElem_cons_zero, List.setIfInBounds_toArray, List.set_cons_zero, List.set_cons_succ]
  refine wpAnyU_all (rs := [11]) (by kernel_rfl) (by simp) (fun i hi => ?_)
  obtain rfl : i = 11 := by simpa using hi
  refine wpOpU_stepG rfl (by rfl) (fun K hK => ?_)
  go_simp
  refine ((ptry_does 1 (P8.out.le (by omega))).at0 S8.out).mono ?_
  rintro e w9 ⟨he, s9⟩
  rw [lockd0 P8.out] at he
  subst he
  have h9 : w9.cell? ⟨B, 0, none⟩ = some (.int .i64 4) ∧ w9.cell? ⟨B, 1, none⟩ = some (.int .i64 0) ∧ w9.cell? ⟨B, 2, none⟩ = some (.int .i64 0) ∧ w9.cell? ⟨B, 3, none⟩ = some (.int .i64 0) := (s9.row 1 rfl).cells4
  have P9 := Lib.hid (P8.out.try0 1); have S9 := Lib.hid s9
  refine hK _ _ ⟨fun _ => h9, ?_⟩
  clear hK K s9 S8 h8
  generalize σ8.swap 1 lockL 0 1 = σ9 at S9 P9
  try simp only [Act.put, List.getElem_toArray, List.getElem_cons_succ, List.getElem_cons_zero, List.setIfInBounds_toArray, List.set_cons_zero, List.set_cons_succ]
  refine wpAnyU_take (i := 12) (v := ?_) rfl (by kernel_rfl) (by kernel_rfl) (by kernel_rfl) (by kernel_rfl) (fun _ _ _ h => h) (Or.inl ⟨by rfl, ?_⟩) h9 ?_
  rotate_left 1
  · (intro w' hS; (try dsimp only at hS); (try simp only [List.getElem_toArray, List.getElem_cons_succ, List.getElem_cons_zero]); go_simp; (try with_reducible rfl))
  try simp only [Act.put, List.getElem_toArray, List.getElem_cons_succ, List.getElem_cons_zero, List.setIfInBounds_toArray, List.set_cons_zero, List.set_cons_succ]
  refine wpAnyU_take (i := 13) (v := ?_) rfl (by kernel_rfl) (by kernel_rfl) (by kernel_rfl) (by kernel_rfl) (fun _ _ _ h => h) (Or.inl ⟨by rfl, ?_⟩) h9 ?_
  rotate_left 1
  · (intro w' hS; (try dsimp only at hS); (try simp only [List.getElem_toArray, List.getElem_cons_succ, List.getElem_cons_zero]); go_simp; (try with_reducible rfl))
  try simp only [Act.put, List.getElem_toArray, List.getElem_cons_succ, List.getElem_cons_zero, List.setIfInBounds_toArray, List.set_cons_zero, List.set_cons_succ]
  refine wpAnyU_take (i := 14) (v := ?_) rfl (by kernel_rfl) (by kernel_rfl) (by kernel_rfl) (by kernel_rfl) (fun _ _ _ h => h) (Or.inl ⟨by rfl, ?_⟩) h9 ?_
  rotate_left 1
  · (intro w' hS; (try dsimp only at hS); (try simp only [List.getElem_toArray, List.getElem_cons_succ, List.getElem_cons_zero]); go_simp; (try with_reducible rfl))
  try simp only [Act.put, List.getElem_toArray, List.getElem_cons_succ, List.getElem_cons_zero, List.setIfInBounds_toArray, List.set_cons_zero, List.set_cons_succ]
  refine wpAnyU_take (i := 15) (v := ?_) rfl (by kernel_rfl) (by kernel_rfl) (by kernel_rfl) (by kernel_rfl) (fun _ _ _ h => h) (Or.inl ⟨by rfl, ?_⟩) h9 ?_
  rotate_left 1
  · (intro w' hS; (try dsimp only at hS); (try simp only [List.getElem_toArray, List.getElem_cons_succ, List.getElem_cons_zero]); go_simp; (try with_reducible rfl))
  try simp only [Act.put, List.getElem_toArray, List.getElem_cons_succ, List.getElem_cons_zero, List.setIfInBounds_toArray, List.set_cons_zero, List.set_cons_succ]
  refine wpAnyU_all (rs := [16]) (by kernel_rfl) (by simp) (fun i hi => ?_)
  obtain rfl : i = 16 := by simpa using hi
  refine wpOpU_stepG rfl (by rfl) (fun K hK => ?_)
  go_simp
  refine ((ptry_does 0 (P9.out.le (by omega))).at0 S9.out).mono ?_
  rintro e w10 ⟨he, s10⟩
  rw [lockd1 P9.out] at he
  subst he
  have h10 : w10.cell? ⟨B, 0, none⟩ = some (.int .i64 4) ∧ w10.cell? ⟨B, 1, none⟩ = some (.int .i64 0) ∧ w10.cell? ⟨B, 2, none⟩ = some (.int .i64 0) ∧ w10.cell? ⟨B, 3, none⟩ = some (.int .i64 0) := (s10.row 1 rfl).cells4
  have P10 := Lib.hid (P9.out.try1 0); have S10 := Lib.hid s10
  refine hK _ _ ⟨fun _ => h10, ?_⟩
  clear hK K s10 S9 h9
  generalize σ9.swap 0 lockL 0 1 = σ10 at S10 P10
  try simp only [Act.put, List.getElem_toArray, List.getElem_cons_succ, List.getElem_cons_zero, List.setIfInBounds_toArray, List.set_cons_zero, List.set_cons_succ]
  refine wpAnyU_take (i := 17) (v := ?_) rfl (by kernel_rfl) (by kernel_rfl) (by kernel_rfl) (by kernel_rfl) (fun _ _ _ h => h) (Or.inl ⟨by rfl, ?_⟩) h10 ?_
  rotate_left 1
  · (intro w' hS; (try dsimp only at hS); (try simp only [List.getElem_toArray, List.getElem_cons_succ, List.getElem_cons_zero]); go_simp; (try with_reducible rfl))
  try simp only [Act.put, List.getElem_toArray, List.getElem_cons_succ, List.getElem_cons_zero, List.setIfInBounds_toArray, List.set_cons_zero, List.set_cons_succ]
  refine wpAnyU_done (by kernel_rfl) ?_ _
  clear h10
  go_wp2_with fail
  refine (panswer_scope 1 0 ⟨0, [], 7, 0⟩ (.slice none 0 0) S10.out i0.out (fun _ _ _ => .inl ⟨rfl, rfl⟩) (by unfold few'; simp) (P10.out.le (by omega))).mono ?_
  rintro e w11 ⟨rfl, s11⟩
  have P11 := Lib.hid (P10.out.put 1 6 (resL 0)); have S11 := Lib.hid s11
  clear s11 S10
  generalize σ10.put 1 6 (resL 0) = σ11 at S11 P11
  go_wp2_with fail
  refine ((pready_does 1 0 i0.out (P11.out.le (by omega))).at0 S11.out).mono ?_
  rintro e w12 ⟨rfl, s12⟩
  have P12 := Lib.hid ((P11.out.put 1 2 (reqL 0)).req 2); have S12 := Lib.hid s12
  clear s12 S11
  generalize (σ11.put 1 2 (reqL 0)).set (reqL 0) 2 = σ12 at S12 P12
  go_wp2_with fail
  refine ((pstate_does 0 0 i0.out (P12.out.le (by omega))).at0 S12.out).mono ?_
  rintro e w13 ⟨he, s13⟩
  rw [P12.out.rq] at he
  subst he
  have P13 := Lib.hid (P12.out.put 0 1 (reqL 0)); have S13 := Lib.hid s13
  clear s13 S12
  generalize σ12.put 0 1 (reqL 0) = σ13 at S13 P13
  go_wp2_with fail
  refine (presult_scope 0 S13.out i0.out (P13.out.le (by omega))).mono ?_
  rintro e w14 ⟨c, oa, he, s14⟩
  have he := he.trans (congrArg Ending.returned (show (lastOf Rt.zero ([] ++ [((0 : Int), (⟨0, [], 7, 0⟩ : Rt))]) 0).val _ = .agg #[.int .i64 0, .slice oa 0 c, .int .i64 7, .int .u64 0] from rfl))
  subst he
  have P14 := Lib.hid (P13.out.put 0 5 (resL 0)); have S14 := Lib.hid s14
  clear s14 S13
  generalize σ13.put 0 5 (resL 0) = σ14 at S14 P14
  obtain ⟨F, q14⟩ := S14.out.exo
  have len0' := len0 q14.open1 (P14.out.le (by omega))
  rw [P14.out.len] at len0'
  have LL := Lib.hid len0'
  have C14 := Lib.hid S14.out.1
  clear q14 len0' S14
  go_wp2_with fail
  refine LL.out.mono ?_
  rintro e w15 ⟨rfl, rfl⟩
  go_wp2
  go_ret
  exact ⟨rfl, C14.out⟩
theorem awake20_scope {S : List Nat} {w0 w : World} {As : List HA} (h : Scope S w0 w As) : Calls Try.prog 10 #[] w fun e w' => e = .returned (.bool true) ∧ Scope S w0 w' As :=
  (awake20_any w).mono fun _ _ ⟨he, hc⟩ => ⟨he, h.quiet hc⟩
theorem Scope.owned' {S : List Nat} {w0 w : World} {As : List HA} (h : Scope S w0 w As) {v : Value} {t : TypeId} {size n : Nat} {xs : List Value} (i : Nat) (hi : As[i]? = some (ownA v t size n xs)) : w.ownsRow 0 t size v n xs := by
  obtain ⟨f, h1, _⟩ := h.get i hi
  exact h1.1
theorem Scope.tail1 {S : List Nat} {w0 w : World} {A X : HA} {Bs : List HA} (h : Scope S w0 w (A :: X :: Bs)) : Scope S w0 w (A :: Bs) := Scope.drop_left (As := [X]) (Bs := A :: Bs) h.swap2
end Go.Proofs.Ytjipjhmcpjffcac
