/- The statements of layer 16: what they share (awake), and MemRaw. -/
import Derived.Test.YtcbipbnomgdklaaMemD
set_option linter.unusedSimpArgs false
set_option linter.unusedVariables false
namespace Go.Proofs.Ytcbipbnomgdklaa
open Go Go.RowKit Go.Maps

theorem small_i {n : Int} (h : -100 ≤ n ∧ n ≤ 100) : I64 n := by unfold I64; omega
theorem small_u {n : Int} (h : 0 ≤ n ∧ n ≤ 100) : U64 n := by unfold U64; omega

set_option maxHeartbeats 1000000 in
theorem awake16_any (w : World) : Calls Try.prog 9 #[] w fun e w' => e = .returned (.bool true) ∧ Chg [] w w' := by
  have hl : Lc.wf ⟨11, 1, 0⟩ := ⟨small_i (by simp), small_i (by simp), small_i (by simp)⟩
  have H0 := Lib.hid (Scope.empty w); have Hl := Lib.hid hl
  clear hl
  go_enter Try.func9, Try.ntmps9
  go_wp2_with fail
  refine (new_scope H0.out).mono ?_
  rintro e w1 ⟨p, rfl, s1⟩
  have S1 := Lib.hid (s1.box [.int .i64 11, .int .i64 1, .int .i64 0] 23)
  clear s1
  go_wp2_with fail
  refine ((add_does 2 ⟨11, 1, 0⟩ Hl.out 5 (small_u (by simp)) (by simp [MS.zero])).call S1.out).mono ?_
  rintro e w2 ⟨he, s2⟩
  rw [show MS.zero.num ⟨11, 1, 0⟩ = 0 from rfl] at he
  subst he
  obtain ⟨d0, d1, d2⟩ := (s2.row 1 rfl).cells3
  have S2 := Lib.hid s2
  clear s2
  go_wp2_with fail
  refine ((swap_does 3 ⟨11, 1, 0⟩ Hl.out 4 7 (small_u (by simp)) (by simp [MS.zero, MS.put, MS.set])).call S2.out).mono ?_
  rintro e w3 ⟨he, s3⟩
  rw [decide_eq_false (by decide)] at he
  subst he
  obtain ⟨e0, e1, e2⟩ := (s3.row 1 rfl).cells3
  have S3 := Lib.hid s3
  clear s3 d0 d1 d2
  go_wp2_with fail
  refine ((peek_does ⟨11, 1, 0⟩ Hl.out).call S3.out).mono ?_
  rintro e w4 ⟨he, s4⟩
  rw [show MS.num _ ⟨11, 1, 0⟩ = 5 from by decide] at he
  subst he
  obtain ⟨d0, d1, d2⟩ := (s4.row 1 rfl).cells3
  have S4 := Lib.hid s4
  clear s4 e0 e1 e2
  go_wp2_with fail
  refine ((len_does (by decide)).call S4.out).mono ?_
  rintro e w5 ⟨he, s5⟩
  rw [show (((MS.log _).length : Nat) : Int) = 2 from by decide] at he
  subst he
  obtain ⟨e0, e1, e2⟩ := (s5.row 1 rfl).cells3
  have S5 := Lib.hid s5
  clear s5 d0 d1 d2
  go_wp2_with fail
  go_region_held3 (fun w' => w'.cell? ⟨w1.heap.size, 0, none⟩ = some (.int .i64 11) ∧ w'.cell? ⟨w1.heap.size, 1, none⟩ = some (.int .i64 1) ∧ w'.cell? ⟨w1.heap.size, 2, none⟩ = some (.int .i64 0))
    (go_keep)
    (first
      | (go_at_call 14
         first
           | refine (events_scope S5.out.drew (by decide)).mono ?_
           | refine (events_scope (S5.out.box [.int .i64 2, .int .i64 3, .int .i64 11, .int .i64 1, .int .i64 0, .int .i64 3, .int .i64 4, .int .i64 11, .int .i64 1, .int .i64 0] 33).drew (by decide)).mono ?_
         intro e w6 hcop
         obtain ⟨v, he, s6⟩ := hcop
         subst he
         obtain ⟨f0, f1, f2⟩ := (s6.row 1 rfl).cells3
         have S6 := Lib.hid s6
         clear s6)
      | (go_at_call 13
         first
           | refine (plain_scope (A := [⟨2, 3, ⟨11, 1, 0⟩⟩, ⟨3, 4, ⟨11, 1, 0⟩⟩]) (B := [⟨2, 3, ⟨11, 1, 0⟩⟩, ⟨3, 4, ⟨11, 1, 0⟩⟩]) S6.out (S6.out.evs 3 rfl) (EvSlice.of_box (S6.out.row 2 rfl)) (by simp)).mono ?_
           | refine (plain_scope (A := [⟨2, 3, ⟨11, 1, 0⟩⟩, ⟨3, 4, ⟨11, 1, 0⟩⟩]) (B := [⟨2, 3, ⟨11, 1, 0⟩⟩, ⟨3, 4, ⟨11, 1, 0⟩⟩]) (S6.out.box [.int .i64 2, .int .i64 3, .int .i64 11, .int .i64 1, .int .i64 0, .int .i64 3, .int .i64 4, .int .i64 11, .int .i64 1, .int .i64 0] 33) ((S6.out.box [.int .i64 2, .int .i64 3, .int .i64 11, .int .i64 1, .int .i64 0, .int .i64 3, .int .i64 4, .int .i64 11, .int .i64 1, .int .i64 0] 33).evs 2 rfl) (EvSlice.of_box ((S6.out.box [.int .i64 2, .int .i64 3, .int .i64 11, .int .i64 1, .int .i64 0, .int .i64 3, .int .i64 4, .int .i64 11, .int .i64 1, .int .i64 0] 33).row 3 rfl)) (by simp)).mono ?_
         rintro e w7 ⟨he, s7⟩
         rw [decide_eq_true rfl] at he
         subst he
         obtain ⟨f0, f1, f2⟩ := (s7.row 1 rfl).cells3
         have S7 := Lib.hid s7
         clear s7))
  all_goals (go_wp2; go_ret; exact ⟨rfl, S7.out.1⟩)

theorem awake16_scope {S : List Nat} {w0 w : World} {As : List HA} (h : Scope S w0 w As) : Calls Try.prog 9 #[] w fun e w' => e = .returned (.bool true) ∧ Scope S w0 w' As :=
  (awake16_any w).mono fun _ _ ⟨he, hc⟩ => ⟨he, h.quiet hc⟩
end Go.Proofs.Ytcbipbnomgdklaa
