/- The helpers that make small numbers (package weighbridgeplay): Few, Mod, and the methods of a Use. -/
import Derived.Test.YtcbipbnomgdklaaMemD
import Derived.Test.YtcbipbnomgdklaaRegion
set_option linter.unusedSimpArgs false
set_option linter.unusedVariables false
namespace Go.Proofs.Ytcbipbnomgdklaa
open Go Go.RowKit Go.Maps

/-- A Use: its nine numbers. -/
structure Us where
  k : Int
  who : Int
  obj : Int
  i : Int
  n : Int
  m : Int
  flow : Int
  len : Int
  mark : Int
def Us.wf (u : Us) : Prop := I64 u.k ∧ I64 u.who ∧ I64 u.obj ∧ I64 u.i ∧ U64 u.n ∧ U64 u.m ∧ I64 u.flow ∧ I64 u.len ∧ I64 u.mark
def Us.cells (u : Us) : List Value := [.int .i64 u.k, .int .i64 u.who, .int .i64 u.obj, .int .i64 u.i, .int .u64 u.n, .int .u64 u.m, .int .i64 u.flow, .int .i64 u.len, .int .i64 u.mark]
@[reducible] def Us.val (u : Us) : Value := .agg #[.int .i64 u.k, .int .i64 u.who, .int .i64 u.obj, .int .i64 u.i, .int .u64 u.n, .int .u64 u.m, .int .i64 u.flow, .int .i64 u.len, .int .i64 u.mark]

def few (n : Int) : Int := if n % 13 = 12 then n else n % 7
def mod (v n : Int) : Int := v % 18446744073709551616 % n
def Us.by (u : Us) : Int := if mod u.who 29 = 28 then u.who else mod u.who 4
def Us.what (u : Us) (n : Int) : Int := mod u.k n
def Us.thing (u : Us) : Int := if mod u.obj 29 = 28 then u.obj else mod u.obj 4
def Us.place (u : Us) : Int := if mod u.i 29 = 28 then u.i else mod u.i 3
def Us.loc (u : Us) : Lc := ⟨1 + mod u.obj 3, u.place, mod u.len 2⟩

theorem few_u {n : Int} (h : U64 n) : U64 (few n) := by
  unfold few U64 at *
  split <;> omega
theorem mod_lt (v : Int) {n : Int} (h : 0 < n) : 0 ≤ mod v n ∧ mod v n < n := ⟨Int.emod_nonneg _ (by omega), Int.emod_lt_of_pos _ h⟩
theorem mod_i (v : Int) {n : Int} (h : 0 < n) (hn : n ≤ 4000000) : I64 (mod v n) := by
  have := mod_lt v h
  unfold I64
  omega
theorem Us.by_i {u : Us} (h : u.wf) : I64 u.by := by
  unfold Us.by
  split
  · exact h.2.1
  · exact mod_i _ (by omega) (by omega)
theorem Us.thing_i {u : Us} (h : u.wf) : I64 u.thing := by
  unfold Us.thing
  split
  · exact h.2.2.1
  · exact mod_i _ (by omega) (by omega)
theorem Us.place_i {u : Us} (h : u.wf) : I64 u.place := by
  unfold Us.place
  split
  · exact h.2.2.2.1
  · exact mod_i _ (by omega) (by omega)
theorem Us.loc_wf {u : Us} (h : u.wf) : u.loc.wf := by
  refine ⟨?_, u.place_i h, mod_i _ (by omega) (by omega)⟩
  have := mod_lt u.obj (n := 3) (by omega)
  show I64 (1 + mod u.obj 3)
  unfold I64
  omega

theorem few_any {x : Int} (hx : U64 x) (w : World) : Calls Try.prog 10 #[.int .u64 x] w fun e w' => e = .returned (.int .u64 (few x)) ∧ w' = w := by
  obtain ⟨h0, h1⟩ := hx
  go_enter Try.func10, Try.ntmps10
  unfold few
  by_cases h : x % 13 = 12
  · go_wp2
    go_ret
    exact ⟨rfl, rfl⟩
  · go_wp2
    go_ret
    exact ⟨rfl, rfl⟩
theorem mod_any {v n : Int} (hn : 0 < n) (hm : n ≤ 4000000) (w : World) : Calls Try.prog 39 #[.int .i64 v, .int .i64 n] w fun e w' => e = .returned (.int .i64 (mod v n)) ∧ w' = w := by
  have hb := mod_lt v hn
  go_enter Try.func39, Try.ntmps39
  go_wp2
  go_ret
  refine ⟨ret_int ?_, rfl⟩
  have e : (IntKind.u64.wrap v).tmod n = mod v n := by
    rw [IntKind.wrap_u64, Int.tmod_eq_emod_of_nonneg (by omega)]
    rfl
  rw [e]
  unfold wrap64
  omega

section
variable {u : Us}
set_option maxHeartbeats 1000000 in
theorem what_any (u : Us) {n : Int} (hn : 0 < n) (hm : n ≤ 4000000) (w : World) : Calls Try.prog 31 #[u.val, .int .i64 n] w fun e w' => e = .returned (.int .i64 (u.what n)) ∧ Chg [] w w' := by
  obtain ⟨c0, c1, c2, c3, c4, c5, c6, c7, c8⟩ := (Row.new w u.cells 52).cells9
  unfold Us.cells at *
  unfold Us.val
  go_enter Try.func31, Try.ntmps31
  go_wp2_with fail
  refine (mod_any (v := u.k) hn hm _).mono ?_
  rintro e w1 ⟨rfl, rfl⟩
  go_wp2_with fail
  go_ret
  exact ⟨rfl, (Chg.refl _ _).alloc _⟩
set_option maxHeartbeats 1000000 in
theorem by_any (u : Us) (w : World) : Calls Try.prog 30 #[u.val] w fun e w' => e = .returned (.int .i64 u.by) ∧ Chg [] w w' := by
  obtain ⟨c0, c1, c2, c3, c4, c5, c6, c7, c8⟩ := (Row.new w u.cells 52).cells9
  unfold Us.cells at *
  unfold Us.val
  by_cases h : mod u.who 29 = 28
  · rw [show u.by = u.who from if_pos h]
    go_enter Try.func30, Try.ntmps30
    go_wp2_with fail
    refine (mod_any (v := u.who) (n := 29) (by omega) (by omega) _).mono ?_
    rintro e w1 ⟨rfl, rfl⟩
    rw [h]
    go_wp2_with fail
    go_ret
    exact ⟨rfl, (Chg.refl _ _).alloc _⟩
  · rw [show u.by = mod u.who 4 from if_neg h]
    go_enter Try.func30, Try.ntmps30
    go_wp2_with fail
    refine (mod_any (v := u.who) (n := 29) (by omega) (by omega) _).mono ?_
    rintro e w1 ⟨rfl, rfl⟩
    go_wp2_with fail
    refine (mod_any (v := u.who) (n := 4) (by omega) (by omega) _).mono ?_
    rintro e w1 ⟨rfl, rfl⟩
    go_wp2_with fail
    go_ret
    exact ⟨rfl, (Chg.refl _ _).alloc _⟩


set_option maxHeartbeats 1000000 in
theorem uplace_any (u : Us) (w : World) : Calls Try.prog 40 #[u.val] w fun e w' => e = .returned (.int .i64 u.place) ∧ Chg [] w w' := by
  obtain ⟨c0, c1, c2, c3, c4, c5, c6, c7, c8⟩ := (Row.new w u.cells 52).cells9
  unfold Us.cells at *
  unfold Us.val
  by_cases h : mod u.i 29 = 28
  · rw [show u.place = u.i from if_pos h]
    go_enter Try.func40, Try.ntmps40
    go_wp2_with fail
    refine (mod_any (v := u.i) (n := 29) (by omega) (by omega) _).mono ?_
    rintro e w1 ⟨rfl, rfl⟩
    rw [h]
    go_wp2_with fail
    go_ret
    exact ⟨rfl, (Chg.refl _ _).alloc _⟩
  · rw [show u.place = mod u.i 3 from if_neg h]
    go_enter Try.func40, Try.ntmps40
    go_wp2_with fail
    refine (mod_any (v := u.i) (n := 29) (by omega) (by omega) _).mono ?_
    rintro e w1 ⟨rfl, rfl⟩
    go_wp2_with fail
    refine (mod_any (v := u.i) (n := 3) (by omega) (by omega) _).mono ?_
    rintro e w1 ⟨rfl, rfl⟩
    go_wp2_with fail
    go_ret
    exact ⟨rfl, (Chg.refl _ _).alloc _⟩


def UseAt (B : Nat) (u : Us) (w : World) : Prop := w.cell? ⟨B, 0, none⟩ = some (.int .i64 u.k) ∧ w.cell? ⟨B, 1, none⟩ = some (.int .i64 u.who) ∧ w.cell? ⟨B, 2, none⟩ = some (.int .i64 u.obj) ∧ w.cell? ⟨B, 3, none⟩ = some (.int .i64 u.i) ∧ w.cell? ⟨B, 4, none⟩ = some (.int .u64 u.n) ∧ w.cell? ⟨B, 5, none⟩ = some (.int .u64 u.m) ∧ w.cell? ⟨B, 6, none⟩ = some (.int .i64 u.flow) ∧ w.cell? ⟨B, 7, none⟩ = some (.int .i64 u.len) ∧ w.cell? ⟨B, 8, none⟩ = some (.int .i64 u.mark)
set_option maxHeartbeats 1000000 in
theorem loc_any (u : Us) (w : World) : Calls Try.prog 21 #[u.val] w fun e w' => e = .returned u.loc.val ∧ Chg [] w w' := by
  have rb := (Row.new w u.cells 52).alloc (.cells #[.int .i64 0, .int .i64 0, .int .i64 0] 23)
  have rc : Row ((w.alloc (.cells u.cells.toArray 52)).alloc (.cells #[.int .i64 0, .int .i64 0, .int .i64 0] 23)) (w.heap.size + 1) [.int .i64 0, .int .i64 0, .int .i64 0] 23 := by
    have := Row.new (w.alloc (.cells u.cells.toArray 52)) [.int .i64 0, .int .i64 0, .int .i64 0] 23
    simpa using this
  have hm := mod_lt u.obj (n := 3) (by omega)
  have hs : IntKind.i64.wrap (1 + mod u.obj 3) = 1 + mod u.obj 3 := by rw [IntKind.wrap_i64]; omega
  have hc0 : Chg [] w ((w.alloc (.cells u.cells.toArray 52)).alloc (.cells #[.int .i64 0, .int .i64 0, .int .i64 0] 23)) := ((Chg.refl _ _).alloc _).alloc _
  have C0 := Lib.hid hc0
  clear hm hc0
  unfold Us.cells at *
  unfold Us.val
  unfold Us.loc Lc.val
  go_enter Try.func21, Try.ntmps21
  go_wp2_with fail
  generalize ((w.alloc _).alloc _) = W at rb rc C0 ⊢
  have Rb := Lib.hid rb; have Rc := Lib.hid rc
  obtain ⟨c0, c1, c2, c3, c4, c5, c6, c7, c8⟩ := rb.cells9
  clear rb rc
  obtain ⟨B, hB⟩ : ∃ B, B = w.heap.size := ⟨_, rfl⟩
  rw [← hB] at Rb Rc c0 c1 c2 c3 c4 c5 c6 c7 c8 ⊢
  have hb : w.heap.size ≤ B + 1 := by omega
  have Hb := Lib.hid hb
  clear hB hb
  refine wp_region_any (by kernel_rfl) ?_
  change wpAny _ _ _ _ _ _ _ W.drew
  have S0 : UseAt B u W.drew := ⟨c0, c1, c2, c3, c4, c5, c6, c7, c8⟩
  clear c0 c1 c2 c3 c4 c5 c6 c7 c8
  refine wpAny_take (i := 0) (v := .pointer (some ⟨B, 2, none⟩)) rfl (by kernel_rfl) (by kernel_rfl) (by kernel_rfl) (fun _ _ _ h => h) (Or.inl ⟨by rfl, fun w' => by go_simp⟩) ?_
  try simp only [Act.put, List.getElem_toArray, List.getElem_cons_succ, List.getElem_cons_zero, List.setIfInBounds_toArray, List.set_cons_zero, List.set_cons_succ]
  refine wpAny_take (i := 6) (v := .pointer (some ⟨B, 6, none⟩)) rfl (by kernel_rfl) (by kernel_rfl) (by kernel_rfl) (fun _ _ _ h => h) (Or.inl ⟨by rfl, fun w' => by go_simp⟩) ?_
  try simp only [Act.put, List.getElem_toArray, List.getElem_cons_succ, List.getElem_cons_zero, List.setIfInBounds_toArray, List.set_cons_zero, List.set_cons_succ]
  refine wpAny_take (i := 7) (v := .pointer (some ⟨B, 7, none⟩)) rfl (by kernel_rfl) (by kernel_rfl) (by kernel_rfl) (fun _ _ _ h => h) (Or.inl ⟨by rfl, fun w' => by go_simp⟩) ?_
  try simp only [Act.put, List.getElem_toArray, List.getElem_cons_succ, List.getElem_cons_zero, List.setIfInBounds_toArray, List.set_cons_zero, List.set_cons_succ]
  refine wpAny_of_U (S := UseAt B u) (U := [1, 2, 3, 4, 5, 8, 9, 10]) _ _ _ _ ?_
  refine wpAnyU_take (i := 1) (v := .int .i64 u.obj) rfl (by kernel_rfl) (by kernel_rfl) (by kernel_rfl) (by kernel_rfl) (fun _ _ _ h => h) (Or.inl ⟨by rfl, fun w' hS => by (obtain ⟨s0, s1, s2, s3, s4, s5, s6, s7, s8⟩ := hS; go_simp)⟩) S0 ?_
  try simp only [Act.put, List.getElem_toArray, List.getElem_cons_succ, List.getElem_cons_zero, List.setIfInBounds_toArray, List.set_cons_zero, List.set_cons_succ]
  refine wpAnyU_take (i := 4) (v := u.val) rfl (by kernel_rfl) (by kernel_rfl) (by kernel_rfl) (by kernel_rfl) (fun _ _ _ h => h) (Or.inl ⟨by rfl, fun w' hS => by (obtain ⟨s0, s1, s2, s3, s4, s5, s6, s7, s8⟩ := hS; go_simp)⟩) S0 ?_
  try simp only [Act.put, List.getElem_toArray, List.getElem_cons_succ, List.getElem_cons_zero, List.setIfInBounds_toArray, List.set_cons_zero, List.set_cons_succ]
  refine wpAnyU_take (i := 8) (v := .int .i64 u.len) rfl (by kernel_rfl) (by kernel_rfl) (by kernel_rfl) (by kernel_rfl) (fun _ _ _ h => h) (Or.inl ⟨by rfl, fun w' hS => by (obtain ⟨s0, s1, s2, s3, s4, s5, s6, s7, s8⟩ := hS; go_simp)⟩) S0 ?_
  try simp only [Act.put, List.getElem_toArray, List.getElem_cons_succ, List.getElem_cons_zero, List.setIfInBounds_toArray, List.set_cons_zero, List.set_cons_succ]
  refine wpAnyU_all (rs := [2]) (by kernel_rfl) (by simp) (fun i hi => ?_)
  obtain rfl : i = 2 := by simpa using hi
  refine wpOpU_stepG rfl (by rfl) (fun K hK => ?_)
  go_simp
  refine (mod_any (v := u.obj) (n := 3) (by omega) (by omega) _).mono ?_
  rintro e w1 ⟨rfl, rfl⟩
  refine hK _ _ ⟨fun _ => S0, ?_⟩
  clear hK K
  try simp only [Act.put, List.getElem_toArray, List.getElem_cons_succ, List.getElem_cons_zero, List.setIfInBounds_toArray, List.set_cons_zero, List.set_cons_succ]
  refine wpAnyU_take (i := 3) (v := .int .i64 (1 + mod u.obj 3)) rfl (by kernel_rfl) (by kernel_rfl) (by kernel_rfl) (by kernel_rfl) (fun _ _ _ h => h) (Or.inl ⟨by rfl, fun w' hS => by go_simp⟩) S0 ?_
  try simp only [Act.put, List.getElem_toArray, List.getElem_cons_succ, List.getElem_cons_zero, List.setIfInBounds_toArray, List.set_cons_zero, List.set_cons_succ]
  refine wpAnyU_all (rs := [5]) (by kernel_rfl) (by simp) (fun i hi => ?_)
  obtain rfl : i = 5 := by simpa using hi
  refine wpOpU_stepG rfl (by rfl) (fun K hK => ?_)
  go_simp
  refine (uplace_any u _).mono ?_
  rintro e w2 ⟨rfl, hc⟩
  have S1 : UseAt B u w2 := (Rb.out.drew.chg hc (by simp)).cells9
  have rd := Rc.out.drew.chg hc (by simp)
  obtain ⟨e0, e1, e2⟩ := rd.cells3
  have f0 := rd.free 0; have f1 := rd.free 1; have f2 := rd.free 2
  have C := Lib.hid hc; have Rd := Lib.hid rd
  clear hc rd
  refine hK _ _ ⟨fun _ => S1, ?_⟩
  clear hK K S0
  try simp only [Act.put, List.getElem_toArray, List.getElem_cons_succ, List.getElem_cons_zero, List.setIfInBounds_toArray, List.set_cons_zero, List.set_cons_succ]
  refine wpAnyU_all (rs := [9]) (by kernel_rfl) (by simp) (fun i hi => ?_)
  obtain rfl : i = 9 := by simpa using hi
  refine wpOpU_stepG rfl (by rfl) (fun K hK => ?_)
  go_simp
  refine (mod_any (v := u.len) (n := 2) (by omega) (by omega) _).mono ?_
  rintro e w3 ⟨rfl, rfl⟩
  refine hK _ _ ⟨fun _ => S1, ?_⟩
  clear hK K
  try simp only [Act.put, List.getElem_toArray, List.getElem_cons_succ, List.getElem_cons_zero, List.setIfInBounds_toArray, List.set_cons_zero, List.set_cons_succ]
  refine wpAnyU_take (i := 10) (v := .agg #[.int .i64 (1 + mod u.obj 3), .int .i64 u.place, .int .i64 (mod u.len 2)]) rfl (by kernel_rfl) (by kernel_rfl) (by kernel_rfl) (by kernel_rfl) (fun _ _ _ h => h) (Or.inl ⟨by rfl, fun w' hS => by go_simp⟩) S1 ?_
  try simp only [Act.put, List.getElem_toArray, List.getElem_cons_succ, List.getElem_cons_zero, List.setIfInBounds_toArray, List.set_cons_zero, List.set_cons_succ]
  refine wpAnyU_rest _ _ _ _ (fun j hj => ?_) ?_
  · simp at hj; rcases hj with rfl | rfl | rfl | rfl | rfl | rfl | rfl | rfl <;> rfl
  refine wpAny_all (rs := [11]) (by kernel_rfl) (by simp) (fun i hi => ?_)
  obtain rfl : i = 11 := by simpa using hi
  refine wpOpU_stepG rfl (by rfl) (fun K hK => ?_)
  go_simp
  refine hK _ _ ?_
  clear hK K
  try simp only [Act.put, List.getElem_toArray, List.getElem_cons_succ, List.getElem_cons_zero, List.setIfInBounds_toArray, List.set_cons_zero, List.set_cons_succ]
  refine wpAny_done (by kernel_rfl) ?_ _
  go_wp2
  refine bodyPost_ret (results_cell_row rfl _ _ (B + 1) 23 #[.int .i64 (1 + mod u.obj 3), .int .i64 u.place, .int .i64 (mod u.len 2)] (0, 0) _ rfl (((Rd.out.set 0 _).set 1 _).set 2 _) Try.underlying23 rfl (by kernel_rfl)) rfl ?_
  have hB := Hb.out
  exact ⟨rfl, (((C0.out.drew.quiet C.out).setCell (.inr hB) _).setCell (.inr hB) _).setCell (.inr hB) _⟩
theorem UseAt.of_row {B : Nat} {u : Us} {w : World} (h : Row w B u.cells 52) : UseAt B u w := h.cells9
end
end Go.Proofs.Ytcbipbnomgdklaa
