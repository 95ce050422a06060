/- The helpers that make small numbers (package weighbridgeplay): Few, Mod, and the methods of a Use. -/
import Derived.Test.YtjipjhmcpjffcacMemD
import Derived.Test.YtjipjhmcpjffcacRegion
set_option linter.unusedSimpArgs false
set_option linter.unusedVariables false
set_option maxRecDepth 20000
namespace Go.Proofs.Ytjipjhmcpjffcac
open Go Go.RowKit Go.Maps

/-- A Use: its nine numbers. -/
structure Us where
  k : Int
  who : Int
  obj : Int
  i : Int
  n : Int
  m : Int
  flow : Int
  len : Int
  mark : Int
def Us.wf (u : Us) : Prop := I64 u.k ∧ I64 u.who ∧ I64 u.obj ∧ I64 u.i ∧ U64 u.n ∧ U64 u.m ∧ I64 u.flow ∧ I64 u.len ∧ I64 u.mark
def Us.cells (u : Us) : List Value := [.int .i64 u.k, .int .i64 u.who, .int .i64 u.obj, .int .i64 u.i, .int .u64 u.n, .int .u64 u.m, .int .i64 u.flow, .int .i64 u.len, .int .i64 u.mark]
@[reducible] def Us.val (u : Us) : Value := .agg #[.int .i64 u.k, .int .i64 u.who, .int .i64 u.obj, .int .i64 u.i, .int .u64 u.n, .int .u64 u.m, .int .i64 u.flow, .int .i64 u.len, .int .i64 u.mark]

def few (n : Int) : Int := if n % 13 = 12 then n else n % 7
def mod (v n : Int) : Int := v % 18446744073709551616 % n
def Us.by (u : Us) : Int := if mod u.who 29 = 28 then u.who else mod u.who 4
def Us.what (u : Us) (n : Int) : Int := mod u.k n
def Us.thing (u : Us) : Int := if mod u.obj 29 = 28 then u.obj else mod u.obj 4
def Us.place (u : Us) : Int := if mod u.i 29 = 28 then u.i else mod u.i 3
def Us.loc (u : Us) : Lc := ⟨1 + mod u.obj 3, u.place, mod u.len 2⟩

theorem few_u {n : Int} (h : U64 n) : U64 (few n) := by
  unfold few U64 at *
  split <;> omega
theorem mod_lt (v : Int) {n : Int} (h : 0 < n) : 0 ≤ mod v n ∧ mod v n < n := ⟨Int.emod_nonneg _ (by omega), Int.emod_lt_of_pos _ h⟩
theorem mod_i (v : Int) {n : Int} (h : 0 < n) (hn : n ≤ 4000000) : I64 (mod v n) := by
  have := mod_lt v h
  unfold I64
  omega
theorem Us.by_i {u : Us} (h : u.wf) : I64 u.by := by
  unfold Us.by
  split
  · exact h.2.1
  · exact mod_i _ (by omega) (by omega)
theorem Us.thing_i {u : Us} (h : u.wf) : I64 u.thing := by
  unfold Us.thing
  split
  · exact h.2.2.1
  · exact mod_i _ (by omega) (by omega)
theorem Us.place_i {u : Us} (h : u.wf) : I64 u.place := by
  unfold Us.place
  split
  · exact h.2.2.2.1
  · exact mod_i _ (by omega) (by omega)
theorem Us.loc_wf {u : Us} (h : u.wf) : u.loc.wf := by
  refine ⟨?_, u.place_i h, mod_i _ (by omega) (by omega)⟩
  have := mod_lt u.obj (n := 3) (by omega)
  show I64 (1 + mod u.obj 3)
  unfold I64
  omega

theorem mod_any {v n : Int} (hn : 0 < n) (hm : n ≤ 4000000) (w : World) : Calls Try.prog 29 #[.int .i64 v, .int .i64 n] w fun e w' => e = .returned (.int .i64 (mod v n)) ∧ w' = w := by
  have hb := mod_lt v hn
  go_enter Try.func29, Try.ntmps29
  go_wp2
  go_ret
  refine ⟨ret_int ?_, rfl⟩
  have e : (IntKind.u64.wrap v).tmod n = mod v n := by
    rw [IntKind.wrap_u64, Int.tmod_eq_emod_of_nonneg (by omega)]
    rfl
  rw [e]
  unfold wrap64
  omega

section
variable {u : Us}
set_option maxHeartbeats 1000000 in
theorem what_any (u : Us) {n : Int} (hn : 0 < n) (hm : n ≤ 4000000) (w : World) : Calls Try.prog 44 #[u.val, .int .i64 n] w fun e w' => e = .returned (.int .i64 (u.what n)) ∧ Chg [] w w' := by
  obtain ⟨c0, c1, c2, c3, c4, c5, c6, c7, c8⟩ := (Row.new w u.cells 62).cells9
  unfold Us.cells at *
  unfold Us.val
  go_enter Try.func44, Try.ntmps44
  go_wp2_with fail
  refine (mod_any (v := u.k) hn hm _).mono ?_
  rintro e w1 ⟨rfl, rfl⟩
  go_wp2_with fail
  go_ret
  exact ⟨rfl, (Chg.refl _ _).alloc _⟩
set_option maxHeartbeats 1000000 in
theorem by_any (u : Us) (w : World) : Calls Try.prog 42 #[u.val] w fun e w' => e = .returned (.int .i64 u.by) ∧ Chg [] w w' := by
  obtain ⟨c0, c1, c2, c3, c4, c5, c6, c7, c8⟩ := (Row.new w u.cells 62).cells9
  unfold Us.cells at *
  unfold Us.val
  by_cases h : mod u.who 29 = 28
  · rw [show u.by = u.who from if_pos h]
    go_enter Try.func42, Try.ntmps42
    go_wp2_with fail
    refine (mod_any (v := u.who) (n := 29) (by omega) (by omega) _).mono ?_
    rintro e w1 ⟨rfl, rfl⟩
    rw [h]
    go_wp2_with fail
    go_ret
    exact ⟨rfl, (Chg.refl _ _).alloc _⟩
  · rw [show u.by = mod u.who 4 from if_neg h]
    go_enter Try.func42, Try.ntmps42
    go_wp2_with fail
    refine (mod_any (v := u.who) (n := 29) (by omega) (by omega) _).mono ?_
    rintro e w1 ⟨rfl, rfl⟩
    go_wp2_with fail
    refine (mod_any (v := u.who) (n := 4) (by omega) (by omega) _).mono ?_
    rintro e w1 ⟨rfl, rfl⟩
    go_wp2_with fail
    go_ret
    exact ⟨rfl, (Chg.refl _ _).alloc _⟩

set_option maxHeartbeats 1000000 in
theorem thing_any (u : Us) (w : World) : Calls Try.prog 43 #[u.val] w fun e w' => e = .returned (.int .i64 u.thing) ∧ Chg [] w w' := by
 obtain ⟨c0, c1, c2, c3, c4, c5, c6, c7, c8⟩ := (Row.new w u.cells 62).cells9
 unfold Us.cells at *
 unfold Us.val
 by_cases h : mod u.obj 29 = 28
 · rw [show u.thing = u.obj from if_pos h]
   go_enter Try.func43, Try.ntmps43
   go_wp2_with fail
   refine (mod_any (v := u.obj) (n := 29) (by omega) (by omega) _).mono ?_
   rintro e w1 ⟨rfl, rfl⟩
   rw [h]
   go_wp2_with fail
   go_ret
   exact ⟨rfl, (Chg.refl _ _).alloc _⟩
 · rw [show u.thing = mod u.obj 4 from if_neg h]
   go_enter Try.func43, Try.ntmps43
   go_wp2_with fail
   refine (mod_any (v := u.obj) (n := 29) (by omega) (by omega) _).mono ?_
   rintro e w1 ⟨rfl, rfl⟩
   go_wp2_with fail
   refine (mod_any (v := u.obj) (n := 4) (by omega) (by omega) _).mono ?_
   rintro e w1 ⟨rfl, rfl⟩
   go_wp2_with fail
   go_ret
   exact ⟨rfl, (Chg.refl _ _).alloc _⟩

def UseAt (B : Nat) (u : Us) (w : World) : Prop := w.cell? ⟨B, 0, none⟩ = some (.int .i64 u.k) ∧ w.cell? ⟨B, 1, none⟩ = some (.int .i64 u.who) ∧ w.cell? ⟨B, 2, none⟩ = some (.int .i64 u.obj) ∧ w.cell? ⟨B, 3, none⟩ = some (.int .i64 u.i) ∧ w.cell? ⟨B, 4, none⟩ = some (.int .u64 u.n) ∧ w.cell? ⟨B, 5, none⟩ = some (.int .u64 u.m) ∧ w.cell? ⟨B, 6, none⟩ = some (.int .i64 u.flow) ∧ w.cell? ⟨B, 7, none⟩ = some (.int .i64 u.len) ∧ w.cell? ⟨B, 8, none⟩ = some (.int .i64 u.mark)
theorem UseAt.of_row {B : Nat} {u : Us} {w : World} (h : Row w B u.cells 62) : UseAt B u w := h.cells9
end
end Go.Proofs.Ytjipjhmcpjffcac
