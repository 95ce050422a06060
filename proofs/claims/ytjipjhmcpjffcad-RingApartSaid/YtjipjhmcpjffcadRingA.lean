/- The awake of layer 17. -/
import Derived.Test.YtjipjhmcpjffcadRingN
set_option linter.unusedSimpArgs false
set_option linter.unusedVariables false
set_option maxRecDepth 20000
namespace Go.Proofs.Ytjipjhmcpjffcad
open Go Go.RowKit Go.Maps

def aw1 : MS := MS.zero.turn 0 0 0 0
def aw2 : MS := aw1.put 0 6 (cellL 0 (ix 0 2))
def aw3 : MS := (aw2.put 0 2 (flagL 0 (ix 0 2))).set (flagL 0 (ix 0 2)) 1
def aw4 : MS := aw3.put 1 1 (flagL 0 (ix 0 2))
def aw5 : MS := aw4.put 1 5 (cellL 0 (ix 0 2))
@[reducible] def k123 : Pk := ⟨1, 2, 3⟩
def awcs : List Pk := [k123, Pk.zero]
def PkAt (B : Nat) (k : Pk) (w : World) : Prop := w.cell? ⟨B, 0, none⟩ = some (.int .i64 k.flow) ∧ w.cell? ⟨B, 1, none⟩ = some (.int .i64 k.len) ∧ w.cell? ⟨B, 2, none⟩ = some (.int .i64 k.mark)
theorem PkAt.of_row {B : Nat} {k : Pk} {w : World} (h : Row w B k.cells 44) : PkAt B k w := h.cells3

set_option maxHeartbeats 4000000 in
theorem awake17_any (w : World) : Calls Try.prog 11 #[] w fun e w' => e = .returned (.bool true) ∧ Chg [] w w' := by
  have H0 := Lib.hid (Scope.empty w)
  have u0 := Lib.hid (show U64 0 from by unfold U64; omega); have u1 := Lib.hid (show U64 1 from by unfold U64; omega); have u2 := Lib.hid (show U64 2 from by unfold U64; omega)
  have i0 := Lib.hid (show I64 0 from by unfold I64; omega)
  go_enter Try.func11, Try.ntmps11
  go_wp2_with fail
  refine (new_scope H0.out).mono ?_
  rintro e w1 ⟨m, rfl, s1⟩
  have S1 := Lib.hid s1
  clear s1
  go_wp2_with fail
  refine (rnew_scope S1.out m 0 2).mono ?_
  rintro e w2 ⟨p, g, rfl, s2⟩
  rw [show cl8 2 = 2 from by decide] at s2
  have S2 := Lib.hid (show Scope [] w w2 [memA m MS.zero, rb p m 0 g (zeros 2).length, gb g (zeros 2)] from s2)
  clear s2
  go_wp2_with fail
  refine ((rclaim_does (σ := MS.zero) (cs := zeros 2) 0 0 u0.out i0.out (by decide)).call (Bs := []) S2.out).mono ?_
  rintro e w3 ⟨he, s3⟩
  rw [show MS.zero.turned 0 0 0 = true from by decide] at he
  subst he
  have S3 := Lib.hid (show Scope [] w w3 [memA m aw1, rb p m 0 g (zeros 2).length, gb g (zeros 2)] from s3)
  clear s3
  go_wp2_with fail
  have P0 : PkAt (w3.heap.size) k123 (w3.alloc (.cells #[.int .i64 1, .int .i64 2, .int .i64 3] 44)) := PkAt.of_row (Row.new w3 [.int .i64 1, .int .i64 2, .int .i64 3] 44)
  have S3b := Lib.hid (show Scope [] w (w3.alloc (.cells #[.int .i64 1, .int .i64 2, .int .i64 3] 44)) ([memA m aw1, rb p m 0 g (zeros 2).length, gb g (zeros 2)] ++ [box w3.heap.size [.int .i64 1, .int .i64 2, .int .i64 3] 44]) from S3.out.box [.int .i64 1, .int .i64 2, .int .i64 3] 44)
  obtain ⟨c0, c1, c2⟩ := P0
  go_wp2_with fail
  refine ((rput_does (σ := aw1) (cs := zeros 2) 0 0 k123 i0.out (by decide) u0.out (by decide) (by decide)).call (Bs := [box w3.heap.size [.int .i64 1, .int .i64 2, .int .i64 3] 44]) S3b.out).mono ?_
  rintro e w4 ⟨rfl, s4⟩
  obtain ⟨B, hB⟩ : ∃ B, B = w3.heap.size := ⟨_, rfl⟩
  rw [← hB] at s4 ⊢
  have S4 := Lib.hid (show Scope [] w w4 ([memA m aw2, rb p m 0 g awcs.length, gb g awcs] ++ [box B [.int .i64 1, .int .i64 2, .int .i64 3] 44]) from s4)
  clear s4 hB c0 c1 c2
  go_wp2_with fail
  refine ((rshow_does (σ := aw2) (cs := awcs) 0 0 i0.out (by decide) u0.out (by decide) (by decide)).call (Bs := [box B [.int .i64 1, .int .i64 2, .int .i64 3] 44]) S4.out).mono ?_
  rintro e w5 ⟨rfl, s5⟩
  have c0 : PkAt B k123 w5 := PkAt.of_row (s5.row 3 rfl)
  have S5 := Lib.hid (show Scope [] w w5 ([memA m aw3, rb p m 0 g awcs.length, gb g awcs] ++ [box B [.int .i64 1, .int .i64 2, .int .i64 3] 44]) from s5)
  clear s5
  have S5d := Lib.hid S5.out.drew
  unfold PkAt at c0
  go_wp2_with fail
  refine wp_region_any (by kernel_rfl) ?_
  change wpAny _ _ _ _ _ _ _ (World.drew _)
  have r5 : w5.drew.cell? ⟨B, 0, none⟩ = some (.int .i64 1) ∧ w5.drew.cell? ⟨B, 1, none⟩ = some (.int .i64 2) ∧ w5.drew.cell? ⟨B, 2, none⟩ = some (.int .i64 3) := c0
  clear c0
  refine wpAny_of_U (S := fun w' => w'.cell? ⟨B, 0, none⟩ = some (.int .i64 1) ∧ w'.cell? ⟨B, 1, none⟩ = some (.int .i64 2) ∧ w'.cell? ⟨B, 2, none⟩ = some (.int .i64 3)) (U := [0, 1, 2, 3, 4, 5, 6, 7, 8, 9, 10, 11, 12, 13, 14, 15, 16, 17, 18, 19, 20, 21, 22, 23, 24, 25, 26]) _ _ _ _ ?_
  refine wpAnyU_take (i := 0) (v := ?_) rfl (by kernel_rfl) (by kernel_rfl) (by kernel_rfl) (by kernel_rfl) (fun _ _ _ h => h) (Or.inl ⟨by rfl, ?_⟩) r5 ?_
  rotate_left 1
  · (intro w' hS; (try dsimp only at hS); (try simp only [List.getElem_toArray, List.getElem_cons_succ, List.getElem_cons_zero]); go_simp; (try with_reducible rfl))
  try simp only [Act.put, List.getElem_toArray, List.getElem_cons_succ, List.getElem_cons_zero, List.setIfInBounds_toArray, List.set_cons_zero, List.set_cons_succ]
  refine wpAnyU_all (rs := [1]) (by kernel_rfl) (by simp) (fun i hi => ?_)
  obtain rfl : i = 1 := by simpa using hi
  refine wpOpU_stepG rfl (by rfl) (fun K hK => ?_)
  go_simp
  refine ((rshown_does (σ := aw3) (cs := awcs) 1 0 i0.out (by decide) u0.out (by decide) (by decide)).call (Bs := [box B [.int .i64 1, .int .i64 2, .int .i64 3] 44]) S5d.out).mono ?_
  rintro e w6 ⟨he, sq⟩
  have he := he.trans (congrArg (fun z => Ending.returned (Value.bool z)) (show (aw3.num (flagL 0 (ix 0 awcs.length)) == IntKind.u64.wrap (0 + 1)) = true from by decide))
  subst he
  have r6 : w6.cell? ⟨B, 0, none⟩ = some (.int .i64 1) ∧ w6.cell? ⟨B, 1, none⟩ = some (.int .i64 2) ∧ w6.cell? ⟨B, 2, none⟩ = some (.int .i64 3) := (sq.row 3 rfl).cells3
  have Q6 := Lib.hid (show Scope [] w w6 ([memA m aw4, rb p m 0 g awcs.length, gb g awcs] ++ [box B [.int .i64 1, .int .i64 2, .int .i64 3] 44]) from sq)
  refine hK _ _ ⟨fun _ => r6, ?_⟩
  clear hK K sq S5d
  try simp only [Act.put, List.getElem_toArray, List.getElem_cons_succ, List.getElem_cons_zero, List.setIfInBounds_toArray, List.set_cons_zero, List.set_cons_succ]
  refine wpAnyU_take (i := 2) (v := ?_) rfl (by kernel_rfl) (by kernel_rfl) (by kernel_rfl) (by kernel_rfl) (fun _ _ _ h => h) (Or.inl ⟨by rfl, ?_⟩) r6 ?_
  rotate_left 1
  · (intro w' hS; (try dsimp only at hS); (try simp only [List.getElem_toArray, List.getElem_cons_succ, List.getElem_cons_zero]); go_simp; (try with_reducible rfl))
  try simp only [Act.put, List.getElem_toArray, List.getElem_cons_succ, List.getElem_cons_zero, List.setIfInBounds_toArray, List.set_cons_zero, List.set_cons_succ]
  refine wpAnyU_take (i := 3) (v := ?_) rfl (by kernel_rfl) (by kernel_rfl) (by kernel_rfl) (by kernel_rfl) (fun _ _ _ h => h) (Or.inl ⟨by rfl, ?_⟩) r6 ?_
  rotate_left 1
  · (intro w' hS; (try dsimp only at hS); (try simp only [List.getElem_toArray, List.getElem_cons_succ, List.getElem_cons_zero]); go_simp; (try with_reducible rfl))
  try simp only [Act.put, List.getElem_toArray, List.getElem_cons_succ, List.getElem_cons_zero, List.setIfInBounds_toArray, List.set_cons_zero, List.set_cons_succ]
  refine wpAnyU_take (i := 5) (v := ?_) rfl (by kernel_rfl) (by kernel_rfl) (by kernel_rfl) (by kernel_rfl) (fun _ _ _ h => h) (Or.inl ⟨by rfl, ?_⟩) r6 ?_
  rotate_left 1
  · (intro w' hS; (try dsimp only at hS); (try simp only [List.getElem_toArray, List.getElem_cons_succ, List.getElem_cons_zero]); go_simp; (try with_reducible rfl))
  try simp only [Act.put, List.getElem_toArray, List.getElem_cons_succ, List.getElem_cons_zero, List.setIfInBounds_toArray, List.set_cons_zero, List.set_cons_succ]
  refine wpAnyU_all (rs := [4]) (by kernel_rfl) (by simp) (fun i hi => ?_)
  obtain rfl : i = 4 := by simpa using hi
  refine wpOpU_stepG rfl (by rfl) (fun K hK => ?_)
  go_simp
  refine ((rget_does (σ := aw4) (cs := awcs) 1 0 k123 i0.out (by decide) u0.out (by decide) (by decide) (by decide)).call (Bs := [box B [.int .i64 1, .int .i64 2, .int .i64 3] 44]) Q6.out).mono ?_
  rintro e w7 ⟨rfl, sq⟩
  have r7 : w7.cell? ⟨B, 0, none⟩ = some (.int .i64 1) ∧ w7.cell? ⟨B, 1, none⟩ = some (.int .i64 2) ∧ w7.cell? ⟨B, 2, none⟩ = some (.int .i64 3) := (sq.row 3 rfl).cells3
  have Q7 := Lib.hid (show Scope [] w w7 ([memA m aw5, rb p m 0 g awcs.length, gb g awcs] ++ [box B [.int .i64 1, .int .i64 2, .int .i64 3] 44]) from sq)
  refine hK _ _ ⟨fun _ => r7, ?_⟩
  clear hK K sq Q6
  try simp only [Act.put, List.getElem_toArray, List.getElem_cons_succ, List.getElem_cons_zero, List.setIfInBounds_toArray, List.set_cons_zero, List.set_cons_succ]
  refine wpAnyU_take (i := 6) (v := ?_) rfl (by kernel_rfl) (by kernel_rfl) (by kernel_rfl) (by kernel_rfl) (fun _ _ _ h => h) (Or.inl ⟨by rfl, ?_⟩) r7 ?_
  rotate_left 1
  · (intro w' hS; (try dsimp only at hS); (try simp only [List.getElem_toArray, List.getElem_cons_succ, List.getElem_cons_zero]); go_simp; (try with_reducible rfl))
  try simp only [Act.put, List.getElem_toArray, List.getElem_cons_succ, List.getElem_cons_zero, List.setIfInBounds_toArray, List.set_cons_zero, List.set_cons_succ]
  refine wpAnyU_take (i := 7) (v := ?_) rfl (by kernel_rfl) (by kernel_rfl) (by kernel_rfl) (by kernel_rfl) (fun _ _ _ h => h) (Or.inl ⟨by rfl, ?_⟩) r7 ?_
  rotate_left 1
  · (intro w' hS; (try dsimp only at hS); (try simp only [List.getElem_toArray, List.getElem_cons_succ, List.getElem_cons_zero]); go_simp; (try with_reducible rfl))
  try simp only [Act.put, List.getElem_toArray, List.getElem_cons_succ, List.getElem_cons_zero, List.setIfInBounds_toArray, List.set_cons_zero, List.set_cons_succ]
  refine wpAnyU_take (i := 8) (v := ?_) rfl (by kernel_rfl) (by kernel_rfl) (by kernel_rfl) (by kernel_rfl) (fun _ _ _ h => h) (Or.inl ⟨by rfl, ?_⟩) r7 ?_
  rotate_left 1
  · (intro w' hS; (try dsimp only at hS); (try simp only [List.getElem_toArray, List.getElem_cons_succ, List.getElem_cons_zero]); go_simp; (try with_reducible rfl))
  try simp only [Act.put, List.getElem_toArray, List.getElem_cons_succ, List.getElem_cons_zero, List.setIfInBounds_toArray, List.set_cons_zero, List.set_cons_succ]
  refine wpAnyU_take (i := 9) (v := ?_) rfl (by kernel_rfl) (by kernel_rfl) (by kernel_rfl) (by kernel_rfl) (fun _ _ _ h => h) (Or.inl ⟨by rfl, ?_⟩) r7 ?_
  rotate_left 1
  · (intro w' hS; (try dsimp only at hS); (try simp only [List.getElem_toArray, List.getElem_cons_succ, List.getElem_cons_zero]); go_simp; (try with_reducible rfl))
  try simp only [Act.put, List.getElem_toArray, List.getElem_cons_succ, List.getElem_cons_zero, List.setIfInBounds_toArray, List.set_cons_zero, List.set_cons_succ]
  refine wpAnyU_all (rs := [10]) (by kernel_rfl) (by simp) (fun i hi => ?_)
  obtain rfl : i = 10 := by simpa using hi
  refine wpOpU_stepG rfl (by rfl) (fun K hK => ?_)
  go_simp
  refine ((len_does (σ := aw5) (p := m) (by decide)).call (As := [memA m aw5]) (Bs := [rb p m 0 g awcs.length, gb g awcs] ++ [box B [.int .i64 1, .int .i64 2, .int .i64 3] 44]) Q7.out).mono ?_
  rintro e w8 ⟨he, sq⟩
  have he := he.trans (congrArg (fun z => Ending.returned (Value.int .i64 z)) (show ((aw5.log.length : Nat) : Int) = 5 from by decide))
  subst he
  have r8 : w8.cell? ⟨B, 0, none⟩ = some (.int .i64 1) ∧ w8.cell? ⟨B, 1, none⟩ = some (.int .i64 2) ∧ w8.cell? ⟨B, 2, none⟩ = some (.int .i64 3) := (sq.row 3 rfl).cells3
  have Q8 := Lib.hid (show Scope [] w w8 ([memA m aw5, rb p m 0 g awcs.length, gb g awcs] ++ [box B [.int .i64 1, .int .i64 2, .int .i64 3] 44]) from sq)
  refine hK _ _ ⟨fun _ => r8, ?_⟩
  clear hK K sq Q7
  try simp only [Act.put, List.getElem_toArray, List.getElem_cons_succ, List.getElem_cons_zero, List.setIfInBounds_toArray, List.set_cons_zero, List.set_cons_succ]
  refine wpAnyU_take (i := 11) (v := ?_) rfl (by kernel_rfl) (by kernel_rfl) (by kernel_rfl) (by kernel_rfl) (fun _ _ _ h => h) (Or.inl ⟨by rfl, ?_⟩) r8 ?_
  rotate_left 1
  · (intro w' hS; (try dsimp only at hS); (try simp only [List.getElem_toArray, List.getElem_cons_succ, List.getElem_cons_zero]); go_simp; (try with_reducible rfl))
  try simp only [Act.put, List.getElem_toArray, List.getElem_cons_succ, List.getElem_cons_zero, List.setIfInBounds_toArray, List.set_cons_zero, List.set_cons_succ]
  refine wpAnyU_take (i := 12) (v := ?_) rfl (by kernel_rfl) (by kernel_rfl) (by kernel_rfl) (by kernel_rfl) (fun _ _ _ h => h) (Or.inl ⟨by rfl, ?_⟩) r8 ?_
  rotate_left 1
  · (intro w' hS; (try dsimp only at hS); (try simp only [List.getElem_toArray, List.getElem_cons_succ, List.getElem_cons_zero]); go_simp; (try with_reducible rfl))
  try simp only [Act.put, List.getElem_toArray, List.getElem_cons_succ, List.getElem_cons_zero, List.setIfInBounds_toArray, List.set_cons_zero, List.set_cons_succ]
  refine wpAnyU_take (i := 13) (v := ?_) rfl (by kernel_rfl) (by kernel_rfl) (by kernel_rfl) (by kernel_rfl) (fun _ _ _ h => h) (Or.inl ⟨by rfl, ?_⟩) r8 ?_
  rotate_left 1
  · (intro w' hS; (try dsimp only at hS); (try simp only [List.getElem_toArray, List.getElem_cons_succ, List.getElem_cons_zero]); go_simp; (try with_reducible rfl))
  try simp only [Act.put, List.getElem_toArray, List.getElem_cons_succ, List.getElem_cons_zero, List.setIfInBounds_toArray, List.set_cons_zero, List.set_cons_succ]
  refine wpAnyU_take (i := 14) (v := ?_) rfl (by kernel_rfl) (by kernel_rfl) (by kernel_rfl) (by kernel_rfl) (fun _ _ _ h => h) (Or.inl ⟨by rfl, ?_⟩) r8 ?_
  rotate_left 1
  · (intro w' hS; (try dsimp only at hS); (try simp only [List.getElem_toArray, List.getElem_cons_succ, List.getElem_cons_zero]); go_simp; (try with_reducible rfl))
  try simp only [Act.put, List.getElem_toArray, List.getElem_cons_succ, List.getElem_cons_zero, List.setIfInBounds_toArray, List.set_cons_zero, List.set_cons_succ]
  refine wpAnyU_all (rs := [15]) (by kernel_rfl) (by simp) (fun i hi => ?_)
  obtain rfl : i = 15 := by simpa using hi
  refine wpOpU_stepG rfl (by rfl) (fun K hK => ?_)
  go_simp
  refine ((rmost_does (cs := awcs)).at1 Q8.out).mono ?_
  rintro e w9 ⟨he, sq⟩
  have he := he.trans (congrArg (fun z => Ending.returned (Value.int .i64 z)) (show ((awcs.length : Nat) : Int) = 2 from rfl))
  subst he
  have r9 : w9.cell? ⟨B, 0, none⟩ = some (.int .i64 1) ∧ w9.cell? ⟨B, 1, none⟩ = some (.int .i64 2) ∧ w9.cell? ⟨B, 2, none⟩ = some (.int .i64 3) := (sq.row 3 rfl).cells3
  have Q9 := Lib.hid (show Scope [] w w9 ([memA m aw5, rb p m 0 g awcs.length, gb g awcs] ++ [box B [.int .i64 1, .int .i64 2, .int .i64 3] 44]) from sq)
  refine hK _ _ ⟨fun _ => r9, ?_⟩
  clear hK K sq Q8
  try simp only [Act.put, List.getElem_toArray, List.getElem_cons_succ, List.getElem_cons_zero, List.setIfInBounds_toArray, List.set_cons_zero, List.set_cons_succ]
  refine wpAnyU_take (i := 16) (v := ?_) rfl (by kernel_rfl) (by kernel_rfl) (by kernel_rfl) (by kernel_rfl) (fun _ _ _ h => h) (Or.inl ⟨by rfl, ?_⟩) r9 ?_
  rotate_left 1
  · (intro w' hS; (try dsimp only at hS); (try simp only [List.getElem_toArray, List.getElem_cons_succ, List.getElem_cons_zero]); go_simp; (try with_reducible rfl))
  try simp only [Act.put, List.getElem_toArray, List.getElem_cons_succ, List.getElem_cons_zero, List.setIfInBounds_toArray, List.set_cons_zero, List.set_cons_succ]
  refine wpAnyU_take (i := 17) (v := ?_) rfl (by kernel_rfl) (by kernel_rfl) (by kernel_rfl) (by kernel_rfl) (fun _ _ _ h => h) (Or.inl ⟨by rfl, ?_⟩) r9 ?_
  rotate_left 1
  · (intro w' hS; (try dsimp only at hS); (try simp only [List.getElem_toArray, List.getElem_cons_succ, List.getElem_cons_zero]); go_simp; (try with_reducible rfl))
  try simp only [Act.put, List.getElem_toArray, List.getElem_cons_succ, List.getElem_cons_zero, List.setIfInBounds_toArray, List.set_cons_zero, List.set_cons_succ]
  refine wpAnyU_take (i := 18) (v := ?_) rfl (by kernel_rfl) (by kernel_rfl) (by kernel_rfl) (by kernel_rfl) (fun _ _ _ h => h) (Or.inl ⟨by rfl, ?_⟩) r9 ?_
  rotate_left 1
  · (intro w' hS; (try dsimp only at hS); (try simp only [List.getElem_toArray, List.getElem_cons_succ, List.getElem_cons_zero]); go_simp; (try with_reducible rfl))
  try simp only [Act.put, List.getElem_toArray, List.getElem_cons_succ, List.getElem_cons_zero, List.setIfInBounds_toArray, List.set_cons_zero, List.set_cons_succ]
  refine wpAnyU_take (i := 19) (v := ?_) rfl (by kernel_rfl) (by kernel_rfl) (by kernel_rfl) (by kernel_rfl) (fun _ _ _ h => h) (Or.inl ⟨by rfl, ?_⟩) r9 ?_
  rotate_left 1
  · (intro w' hS; (try dsimp only at hS); (try simp only [List.getElem_toArray, List.getElem_cons_succ, List.getElem_cons_zero]); go_simp; (try with_reducible rfl))
  try simp only [Act.put, List.getElem_toArray, List.getElem_cons_succ, List.getElem_cons_zero, List.setIfInBounds_toArray, List.set_cons_zero, List.set_cons_succ]
  refine wpAnyU_all (rs := [20]) (by kernel_rfl) (by simp) (fun i hi => ?_)
  obtain rfl : i = 20 := by simpa using hi
  refine wpOpU_stepG rfl (by rfl) (fun K hK => ?_)
  go_simp
  refine ((rfull_does (cs := awcs) (x := 2) (hd := 0) u2.out u0.out (by decide)).at1 Q9.out).mono ?_
  rintro e w10 ⟨he, sq⟩
  have he := he.trans (congrArg (fun z => Ending.returned (Value.bool z)) (show decide ((0 : Int) ≤ wcnt 2 ∧ ((awcs.length : Nat) : Int) ≤ wcnt 2 - 0) = true from by decide))
  subst he
  have r10 : w10.cell? ⟨B, 0, none⟩ = some (.int .i64 1) ∧ w10.cell? ⟨B, 1, none⟩ = some (.int .i64 2) ∧ w10.cell? ⟨B, 2, none⟩ = some (.int .i64 3) := (sq.row 3 rfl).cells3
  have Q10 := Lib.hid (show Scope [] w w10 ([memA m aw5, rb p m 0 g awcs.length, gb g awcs] ++ [box B [.int .i64 1, .int .i64 2, .int .i64 3] 44]) from sq)
  refine hK _ _ ⟨fun _ => r10, ?_⟩
  clear hK K sq Q9
  try simp only [Act.put, List.getElem_toArray, List.getElem_cons_succ, List.getElem_cons_zero, List.setIfInBounds_toArray, List.set_cons_zero, List.set_cons_succ]
  refine wpAnyU_take (i := 21) (v := ?_) rfl (by kernel_rfl) (by kernel_rfl) (by kernel_rfl) (by kernel_rfl) (fun _ _ _ h => h) (Or.inl ⟨by rfl, ?_⟩) r10 ?_
  rotate_left 1
  · (intro w' hS; (try dsimp only at hS); (try simp only [List.getElem_toArray, List.getElem_cons_succ, List.getElem_cons_zero]); go_simp; (try with_reducible rfl))
  try simp only [Act.put, List.getElem_toArray, List.getElem_cons_succ, List.getElem_cons_zero, List.setIfInBounds_toArray, List.set_cons_zero, List.set_cons_succ]
  refine wpAnyU_take (i := 22) (v := ?_) rfl (by kernel_rfl) (by kernel_rfl) (by kernel_rfl) (by kernel_rfl) (fun _ _ _ h => h) (Or.inl ⟨by rfl, ?_⟩) r10 ?_
  rotate_left 1
  · (intro w' hS; (try dsimp only at hS); (try simp only [List.getElem_toArray, List.getElem_cons_succ, List.getElem_cons_zero]); go_simp; (try with_reducible rfl))
  try simp only [Act.put, List.getElem_toArray, List.getElem_cons_succ, List.getElem_cons_zero, List.setIfInBounds_toArray, List.set_cons_zero, List.set_cons_succ]
  refine wpAnyU_take (i := 23) (v := ?_) rfl (by kernel_rfl) (by kernel_rfl) (by kernel_rfl) (by kernel_rfl) (fun _ _ _ h => h) (Or.inl ⟨by rfl, ?_⟩) r10 ?_
  rotate_left 1
  · (intro w' hS; (try dsimp only at hS); (try simp only [List.getElem_toArray, List.getElem_cons_succ, List.getElem_cons_zero]); go_simp; (try with_reducible rfl))
  try simp only [Act.put, List.getElem_toArray, List.getElem_cons_succ, List.getElem_cons_zero, List.setIfInBounds_toArray, List.set_cons_zero, List.set_cons_succ]
  refine wpAnyU_all (rs := [24]) (by kernel_rfl) (by simp) (fun i hi => ?_)
  obtain rfl : i = 24 := by simpa using hi
  refine wpOpU_stepG rfl (by rfl) (fun K hK => ?_)
  go_simp
  refine ((rfull_does (cs := awcs) (x := 2) (hd := 1) u2.out u1.out (by decide)).at1 Q10.out).mono ?_
  rintro e w11 ⟨he, sq⟩
  have he := he.trans (congrArg (fun z => Ending.returned (Value.bool z)) (show decide ((1 : Int) ≤ wcnt 2 ∧ ((awcs.length : Nat) : Int) ≤ wcnt 2 - 1) = false from by decide))
  subst he
  have r11 : w11.cell? ⟨B, 0, none⟩ = some (.int .i64 1) ∧ w11.cell? ⟨B, 1, none⟩ = some (.int .i64 2) ∧ w11.cell? ⟨B, 2, none⟩ = some (.int .i64 3) := (sq.row 3 rfl).cells3
  have Q11 := Lib.hid (show Scope [] w w11 ([memA m aw5, rb p m 0 g awcs.length, gb g awcs] ++ [box B [.int .i64 1, .int .i64 2, .int .i64 3] 44]) from sq)
  refine hK _ _ ⟨fun _ => r11, ?_⟩
  clear hK K sq Q10
  try simp only [Act.put, List.getElem_toArray, List.getElem_cons_succ, List.getElem_cons_zero, List.setIfInBounds_toArray, List.set_cons_zero, List.set_cons_succ]
  refine wpAnyU_take (i := 25) (v := ?_) rfl (by kernel_rfl) (by kernel_rfl) (by kernel_rfl) (by kernel_rfl) (fun _ _ _ h => h) (Or.inl ⟨by rfl, ?_⟩) r11 ?_
  rotate_left 1
  · (intro w' hS; (try dsimp only at hS); (try simp only [List.getElem_toArray, List.getElem_cons_succ, List.getElem_cons_zero]); go_simp; (try with_reducible rfl))
  try simp only [Act.put, List.getElem_toArray, List.getElem_cons_succ, List.getElem_cons_zero, List.setIfInBounds_toArray, List.set_cons_zero, List.set_cons_succ]
  refine wpAnyU_take (i := 26) (v := ?_) rfl (by kernel_rfl) (by kernel_rfl) (by kernel_rfl) (by kernel_rfl) (fun _ _ _ h => h) (Or.inl ⟨by rfl, ?_⟩) r11 ?_
  rotate_left 1
  · (intro w' hS; (try dsimp only at hS); (try simp only [List.getElem_toArray, List.getElem_cons_succ, List.getElem_cons_zero]); go_simp; (try with_reducible rfl))
  try simp only [Act.put, List.getElem_toArray, List.getElem_cons_succ, List.getElem_cons_zero, List.setIfInBounds_toArray, List.set_cons_zero, List.set_cons_succ]
  refine wpAnyU_rest _ _ _ _ (fun j hj => ?_) ?_
  · simp at hj; rcases hj with rfl | rfl | rfl | rfl | rfl | rfl | rfl | rfl | rfl | rfl | rfl | rfl | rfl | rfl | rfl | rfl | rfl | rfl | rfl | rfl | rfl | rfl | rfl | rfl | rfl | rfl | rfl <;> rfl
  refine wpAny_all (rs := [27]) (by kernel_rfl) (by simp) (fun i hi => ?_)
  obtain rfl : i = 27 := by simpa using hi
  refine wpOpU_stepG rfl (by rfl) (fun K hK => ?_)
  go_simp
  refine hK _ _ ?_
  clear hK K
  try simp only [Act.put, List.getElem_toArray, List.getElem_cons_succ, List.getElem_cons_zero, List.setIfInBounds_toArray, List.set_cons_zero, List.set_cons_succ]
  refine wpAny_done (by kernel_rfl) ?_ _
  go_wp2
  go_ret
  exact ⟨rfl, Q11.out.1⟩
theorem awake17_scope {S : List Nat} {w0 w : World} {As : List HA} (h : Scope S w0 w As) : Calls Try.prog 11 #[] w fun e w' => e = .returned (.bool true) ∧ Scope S w0 w' As :=
  (awake17_any w).mono fun _ _ ⟨he, hc⟩ => ⟨he, h.quiet hc⟩
end Go.Proofs.Ytjipjhmcpjffcad
