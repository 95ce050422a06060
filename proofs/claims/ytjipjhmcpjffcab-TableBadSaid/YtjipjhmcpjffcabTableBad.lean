/- TableBad: a flow or an object that may not be is not put; at the ends of what may be one is. -/
import Derived.Test.YtjipjhmcpjffcabTabT
set_option linter.unusedSimpArgs false
set_option linter.unusedVariables false
namespace Go.Proofs.Ytjipjhmcpjffcab
open Go Go.RowKit Go.Maps

theorem slot_top : slotR (slotN 1048576 4294967295) = .tuple #[.int .i64 1048576, .int .i64 4294967295, .bool true] := by
  have e1 : slotF (slotN 1048576 4294967295) = 1048576 := by decide
  have e2 : slotO (slotN 1048576 4294967295) = 4294967295 := by decide
  have e3 : slotB (slotN 1048576 4294967295) = true := by decide
  unfold slotR
  rw [e1, e2, e3]

set_option maxHeartbeats 8000000 in
set_option maxRecDepth 20000 in
theorem tableBad_row (a b : Int) (u : Us) (flow obj : Int) (_ : I64 a) (_ : I64 b) (wu : u.wf) (_ : I64 flow) (ho : I64 obj) (w : World) :
    Calls Try.prog 4 #[.int .i64 a, .int .i64 b, u.val, .int .i64 flow, .int .i64 obj] w fun e w' => e = .returned (.bool true) ∧ Below w.heap.size w w' := by
  have s0 : Scope [] w (w.alloc (.cells #[.int .i64 u.k, .int .i64 u.who, .int .i64 u.obj, .int .i64 u.i, .int .u64 u.n, .int .u64 u.m, .int .i64 u.flow, .int .i64 u.len, .int .i64 u.mark] 39)) [box w.heap.size u.cells 39] := (Scope.empty w).box u.cells 39
  have S0 := Lib.hid s0; have Wu := Lib.hid wu; have Ho := Lib.hid ho
  have ob := ho.2
  clear s0 wu ho
  unfold Us.val
  go_enter Try.func4, Try.ntmps4
  go_wp2_with fail
  refine (made19_scope S0.out a b).mono ?_
  rintro e w1 ⟨m, p, q, x, rfl, s1⟩
  have S1 := Lib.hid s1
  clear s1
  generalize cl (mshard a b) = sh at S1 ⊢
  generalize cl (mslots a b) = sl at S1 ⊢
  go_wp2_with fail
  refine (awake19_scope S1.out).mono ?_
  rintro e w2 ⟨rfl, s2⟩
  generalize w.heap.size = B at s2 ⊢
  have S2 := Lib.hid s2
  clear s2 S1 S0
  cases hb : goodB flow obj with
  | true =>
    obtain ⟨h0, h1, h2, h3⟩ := of_decide_eq_true hb
    have e4 : IntKind.u64.wrap obj = obj := by rw [IntKind.wrap_u64]; omega
    clear hb ob
    obtain ⟨c0, c1, c2, c3, c4, c5, c6, c7, c8⟩ := (S2.out.rowm (k := B) (vs := u.cells) (t := 39) (by simp)).cells9
    clear c0 c4 c5 c6 c7 c8
    go_wp2_with fail
    refine ((tput_yes u.who u.obj u.i flow obj Wu.out.2.2.1 Wu.out.2.2.2.1 (by simp [MS.zero]) h0 h1 h2 h3).at0 S2.out).mono ?_
    rintro e w3 ⟨rfl, s3⟩
    have S3 := Lib.hid (show Scope [] w w3 [tabA p m sh sl ((MS.zero.put u.who 2 (slotL u.obj u.i)).set (slotL u.obj u.i) (slotN flow obj)), rtabA q x 0 sh sl MS.zero, box B u.cells 39] from s3)
    clear s3 c1 c2 c3
    have hl : ((((MS.zero.put u.who 2 (slotL u.obj u.i)).set (slotL u.obj u.i) (slotN flow obj))).log.length : Int) = 1 := by simp [MS.put, MS.set, MS.zero]
    have Hl := Lib.hid hl
    clear hl
    obtain ⟨c0, c1, c2, c3, c4, c5, c6, c7, c8⟩ := (S3.out.rowm (k := B) (vs := u.cells) (t := 39) (by simp)).cells9
    clear c0 c4 c5 c6 c7 c8
    go_wp2_with fail
    refine (len0 (Scope.open1 S3.out) (by simp [MS.put, MS.set, MS.zero])).mono ?_
    rintro e wl ⟨he, rfl⟩
    rw [Hl.out] at he
    subst he
    go_wp2_with fail
    refine ((tput_no u.who u.obj u.i 1048577 0 (by unfold I64; omega) (by decide)).at0 S3.out).mono ?_
    rintro e w4 ⟨rfl, s4⟩
    have S4 := Lib.hid s4
    clear s4 c1 c2 c3
    obtain ⟨c0, c1, c2, c3, c4, c5, c6, c7, c8⟩ := (S4.out.rowm (k := B) (vs := u.cells) (t := 39) (by simp)).cells9
    clear c0 c4 c5 c6 c7 c8
    go_wp2_with fail
    refine ((tput_no u.who u.obj u.i (-1) 0 (by unfold I64; omega) (by decide)).at0 S4.out).mono ?_
    rintro e w5 ⟨rfl, s5⟩
    have S5 := Lib.hid s5
    clear s5 c1 c2 c3
    obtain ⟨c0, c1, c2, c3, c4, c5, c6, c7, c8⟩ := (S5.out.rowm (k := B) (vs := u.cells) (t := 39) (by simp)).cells9
    clear c0 c4 c5 c6 c7 c8
    go_wp2_with fail
    refine ((tput_no u.who u.obj u.i 0 (-1) (by unfold I64; omega) (by decide)).at0 S5.out).mono ?_
    rintro e w6 ⟨rfl, s6⟩
    have S6 := Lib.hid s6
    clear s6 c1 c2 c3
    obtain ⟨c0, c1, c2, c3, c4, c5, c6, c7, c8⟩ := (S6.out.rowm (k := B) (vs := u.cells) (t := 39) (by simp)).cells9
    clear c0 c4 c5 c6 c7 c8
    go_wp2_with fail
    refine ((tput_no u.who u.obj u.i 0 4294967296 (by unfold I64; omega) (by decide)).at0 S6.out).mono ?_
    rintro e w7 ⟨rfl, s7⟩
    have S7 := Lib.hid s7
    clear s7 c1 c2 c3
    obtain ⟨c0, c1, c2, c3, c4, c5, c6, c7, c8⟩ := (S7.out.rowm (k := B) (vs := u.cells) (t := 39) (by simp)).cells9
    clear c0 c4 c5 c6 c7 c8
    go_wp2_with fail
    refine (len0 (Scope.open1 S7.out) (by simp [MS.put, MS.set, MS.zero])).mono ?_
    rintro e wl ⟨he, rfl⟩
    rw [Hl.out] at he
    subst he
    go_wp2_with fail
    refine ((tput_yes u.who u.obj u.i 1048576 4294967295 Wu.out.2.2.1 Wu.out.2.2.2.1 (by simp [MS.put, MS.set, MS.zero]) (by omega) (by omega) (by omega) (by omega)).at0 S7.out).mono ?_
    rintro e w8 ⟨rfl, s8⟩
    have S8 := Lib.hid s8
    clear s8 c1 c2 c3
    obtain ⟨c0, c1, c2, c3, c4, c5, c6, c7, c8⟩ := (S8.out.rowm (k := B) (vs := u.cells) (t := 39) (by simp)).cells9
    clear c0 c4 c5 c6 c7 c8
    have hnum : ∀ τ : MS, ((τ.put u.who 2 (slotL u.obj u.i)).set (slotL u.obj u.i) (slotN 1048576 4294967295)).num (slotL u.obj u.i) = slotN 1048576 4294967295 := fun τ => by simp [MS.set]
    have Hnum := Lib.hid hnum
    clear hnum
    go_wp2_with fail
    refine ((tslot_does u.who u.obj u.i Wu.out.2.2.1 Wu.out.2.2.2.1 (by simp [MS.put, MS.set, MS.zero]) (by rw [Hnum.out]; exact slotN_u (by omega) (by omega) (by omega) (by omega))).at0 S8.out).mono ?_
    rintro e w9 ⟨he, s9⟩
    rw [Hnum.out, slot_top] at he
    subst he
    have S9 := Lib.hid s9
    clear s9 c1 c2 c3
    go_wp2
    go_ret
    exact ⟨rfl, S9.out.below⟩
  | false =>
    have hb' := of_decide_eq_false hb
    have Hb := Lib.hid hb
    clear hb
    by_cases a0 : flow < 0
    · clear hb' ob
      obtain ⟨c0, c1, c2, c3, c4, c5, c6, c7, c8⟩ := (S2.out.rowm (k := B) (vs := u.cells) (t := 39) (by simp)).cells9
      clear c0 c4 c5 c6 c7 c8
      go_wp2_with fail
      refine ((tput_no u.who u.obj u.i flow obj Ho.out Hb.out).at0 S2.out).mono ?_
      rintro e w3 ⟨rfl, s3⟩
      have S3 := Lib.hid (show Scope [] w w3 [tabA p m sh sl MS.zero, rtabA q x 0 sh sl MS.zero, box B u.cells 39] from s3)
      clear s3 c1 c2 c3
      have hl : ((MS.zero).log.length : Int) = 0 := by simp [MS.put, MS.set, MS.zero]
      have Hl := Lib.hid hl
      clear hl
      obtain ⟨c0, c1, c2, c3, c4, c5, c6, c7, c8⟩ := (S3.out.rowm (k := B) (vs := u.cells) (t := 39) (by simp)).cells9
      clear c0 c4 c5 c6 c7 c8
      go_wp2_with fail
      refine (len0 (Scope.open1 S3.out) (by simp [MS.put, MS.set, MS.zero])).mono ?_
      rintro e wl ⟨he, rfl⟩
      rw [Hl.out] at he
      subst he
      go_wp2_with fail
      refine ((tput_no u.who u.obj u.i 1048577 0 (by unfold I64; omega) (by decide)).at0 S3.out).mono ?_
      rintro e w4 ⟨rfl, s4⟩
      have S4 := Lib.hid s4
      clear s4 c1 c2 c3
      obtain ⟨c0, c1, c2, c3, c4, c5, c6, c7, c8⟩ := (S4.out.rowm (k := B) (vs := u.cells) (t := 39) (by simp)).cells9
      clear c0 c4 c5 c6 c7 c8
      go_wp2_with fail
      refine ((tput_no u.who u.obj u.i (-1) 0 (by unfold I64; omega) (by decide)).at0 S4.out).mono ?_
      rintro e w5 ⟨rfl, s5⟩
      have S5 := Lib.hid s5
      clear s5 c1 c2 c3
      obtain ⟨c0, c1, c2, c3, c4, c5, c6, c7, c8⟩ := (S5.out.rowm (k := B) (vs := u.cells) (t := 39) (by simp)).cells9
      clear c0 c4 c5 c6 c7 c8
      go_wp2_with fail
      refine ((tput_no u.who u.obj u.i 0 (-1) (by unfold I64; omega) (by decide)).at0 S5.out).mono ?_
      rintro e w6 ⟨rfl, s6⟩
      have S6 := Lib.hid s6
      clear s6 c1 c2 c3
      obtain ⟨c0, c1, c2, c3, c4, c5, c6, c7, c8⟩ := (S6.out.rowm (k := B) (vs := u.cells) (t := 39) (by simp)).cells9
      clear c0 c4 c5 c6 c7 c8
      go_wp2_with fail
      refine ((tput_no u.who u.obj u.i 0 4294967296 (by unfold I64; omega) (by decide)).at0 S6.out).mono ?_
      rintro e w7 ⟨rfl, s7⟩
      have S7 := Lib.hid s7
      clear s7 c1 c2 c3
      obtain ⟨c0, c1, c2, c3, c4, c5, c6, c7, c8⟩ := (S7.out.rowm (k := B) (vs := u.cells) (t := 39) (by simp)).cells9
      clear c0 c4 c5 c6 c7 c8
      go_wp2_with fail
      refine (len0 (Scope.open1 S7.out) (by simp [MS.put, MS.set, MS.zero])).mono ?_
      rintro e wl ⟨he, rfl⟩
      rw [Hl.out] at he
      subst he
      go_wp2_with fail
      refine ((tput_yes u.who u.obj u.i 1048576 4294967295 Wu.out.2.2.1 Wu.out.2.2.2.1 (by simp [MS.put, MS.set, MS.zero]) (by omega) (by omega) (by omega) (by omega)).at0 S7.out).mono ?_
      rintro e w8 ⟨rfl, s8⟩
      have S8 := Lib.hid s8
      clear s8 c1 c2 c3
      obtain ⟨c0, c1, c2, c3, c4, c5, c6, c7, c8⟩ := (S8.out.rowm (k := B) (vs := u.cells) (t := 39) (by simp)).cells9
      clear c0 c4 c5 c6 c7 c8
      have hnum : ∀ τ : MS, ((τ.put u.who 2 (slotL u.obj u.i)).set (slotL u.obj u.i) (slotN 1048576 4294967295)).num (slotL u.obj u.i) = slotN 1048576 4294967295 := fun τ => by simp [MS.set]
      have Hnum := Lib.hid hnum
      clear hnum
      go_wp2_with fail
      refine ((tslot_does u.who u.obj u.i Wu.out.2.2.1 Wu.out.2.2.2.1 (by simp [MS.put, MS.set, MS.zero]) (by rw [Hnum.out]; exact slotN_u (by omega) (by omega) (by omega) (by omega))).at0 S8.out).mono ?_
      rintro e w9 ⟨he, s9⟩
      rw [Hnum.out, slot_top] at he
      subst he
      have S9 := Lib.hid s9
      clear s9 c1 c2 c3
      go_wp2
      go_ret
      exact ⟨rfl, S9.out.below⟩
    by_cases a1 : 1048576 < flow
    · clear hb' ob
      obtain ⟨c0, c1, c2, c3, c4, c5, c6, c7, c8⟩ := (S2.out.rowm (k := B) (vs := u.cells) (t := 39) (by simp)).cells9
      clear c0 c4 c5 c6 c7 c8
      go_wp2_with fail
      refine ((tput_no u.who u.obj u.i flow obj Ho.out Hb.out).at0 S2.out).mono ?_
      rintro e w3 ⟨rfl, s3⟩
      have S3 := Lib.hid (show Scope [] w w3 [tabA p m sh sl MS.zero, rtabA q x 0 sh sl MS.zero, box B u.cells 39] from s3)
      clear s3 c1 c2 c3
      have hl : ((MS.zero).log.length : Int) = 0 := by simp [MS.put, MS.set, MS.zero]
      have Hl := Lib.hid hl
      clear hl
      obtain ⟨c0, c1, c2, c3, c4, c5, c6, c7, c8⟩ := (S3.out.rowm (k := B) (vs := u.cells) (t := 39) (by simp)).cells9
      clear c0 c4 c5 c6 c7 c8
      go_wp2_with fail
      refine (len0 (Scope.open1 S3.out) (by simp [MS.put, MS.set, MS.zero])).mono ?_
      rintro e wl ⟨he, rfl⟩
      rw [Hl.out] at he
      subst he
      go_wp2_with fail
      refine ((tput_no u.who u.obj u.i 1048577 0 (by unfold I64; omega) (by decide)).at0 S3.out).mono ?_
      rintro e w4 ⟨rfl, s4⟩
      have S4 := Lib.hid s4
      clear s4 c1 c2 c3
      obtain ⟨c0, c1, c2, c3, c4, c5, c6, c7, c8⟩ := (S4.out.rowm (k := B) (vs := u.cells) (t := 39) (by simp)).cells9
      clear c0 c4 c5 c6 c7 c8
      go_wp2_with fail
      refine ((tput_no u.who u.obj u.i (-1) 0 (by unfold I64; omega) (by decide)).at0 S4.out).mono ?_
      rintro e w5 ⟨rfl, s5⟩
      have S5 := Lib.hid s5
      clear s5 c1 c2 c3
      obtain ⟨c0, c1, c2, c3, c4, c5, c6, c7, c8⟩ := (S5.out.rowm (k := B) (vs := u.cells) (t := 39) (by simp)).cells9
      clear c0 c4 c5 c6 c7 c8
      go_wp2_with fail
      refine ((tput_no u.who u.obj u.i 0 (-1) (by unfold I64; omega) (by decide)).at0 S5.out).mono ?_
      rintro e w6 ⟨rfl, s6⟩
      have S6 := Lib.hid s6
      clear s6 c1 c2 c3
      obtain ⟨c0, c1, c2, c3, c4, c5, c6, c7, c8⟩ := (S6.out.rowm (k := B) (vs := u.cells) (t := 39) (by simp)).cells9
      clear c0 c4 c5 c6 c7 c8
      go_wp2_with fail
      refine ((tput_no u.who u.obj u.i 0 4294967296 (by unfold I64; omega) (by decide)).at0 S6.out).mono ?_
      rintro e w7 ⟨rfl, s7⟩
      have S7 := Lib.hid s7
      clear s7 c1 c2 c3
      obtain ⟨c0, c1, c2, c3, c4, c5, c6, c7, c8⟩ := (S7.out.rowm (k := B) (vs := u.cells) (t := 39) (by simp)).cells9
      clear c0 c4 c5 c6 c7 c8
      go_wp2_with fail
      refine (len0 (Scope.open1 S7.out) (by simp [MS.put, MS.set, MS.zero])).mono ?_
      rintro e wl ⟨he, rfl⟩
      rw [Hl.out] at he
      subst he
      go_wp2_with fail
      refine ((tput_yes u.who u.obj u.i 1048576 4294967295 Wu.out.2.2.1 Wu.out.2.2.2.1 (by simp [MS.put, MS.set, MS.zero]) (by omega) (by omega) (by omega) (by omega)).at0 S7.out).mono ?_
      rintro e w8 ⟨rfl, s8⟩
      have S8 := Lib.hid s8
      clear s8 c1 c2 c3
      obtain ⟨c0, c1, c2, c3, c4, c5, c6, c7, c8⟩ := (S8.out.rowm (k := B) (vs := u.cells) (t := 39) (by simp)).cells9
      clear c0 c4 c5 c6 c7 c8
      have hnum : ∀ τ : MS, ((τ.put u.who 2 (slotL u.obj u.i)).set (slotL u.obj u.i) (slotN 1048576 4294967295)).num (slotL u.obj u.i) = slotN 1048576 4294967295 := fun τ => by simp [MS.set]
      have Hnum := Lib.hid hnum
      clear hnum
      go_wp2_with fail
      refine ((tslot_does u.who u.obj u.i Wu.out.2.2.1 Wu.out.2.2.2.1 (by simp [MS.put, MS.set, MS.zero]) (by rw [Hnum.out]; exact slotN_u (by omega) (by omega) (by omega) (by omega))).at0 S8.out).mono ?_
      rintro e w9 ⟨he, s9⟩
      rw [Hnum.out, slot_top] at he
      subst he
      have S9 := Lib.hid s9
      clear s9 c1 c2 c3
      go_wp2
      go_ret
      exact ⟨rfl, S9.out.below⟩
    by_cases a2 : obj < 0
    · clear hb' ob
      obtain ⟨c0, c1, c2, c3, c4, c5, c6, c7, c8⟩ := (S2.out.rowm (k := B) (vs := u.cells) (t := 39) (by simp)).cells9
      clear c0 c4 c5 c6 c7 c8
      go_wp2_with fail
      refine ((tput_no u.who u.obj u.i flow obj Ho.out Hb.out).at0 S2.out).mono ?_
      rintro e w3 ⟨rfl, s3⟩
      have S3 := Lib.hid (show Scope [] w w3 [tabA p m sh sl MS.zero, rtabA q x 0 sh sl MS.zero, box B u.cells 39] from s3)
      clear s3 c1 c2 c3
      have hl : ((MS.zero).log.length : Int) = 0 := by simp [MS.put, MS.set, MS.zero]
      have Hl := Lib.hid hl
      clear hl
      obtain ⟨c0, c1, c2, c3, c4, c5, c6, c7, c8⟩ := (S3.out.rowm (k := B) (vs := u.cells) (t := 39) (by simp)).cells9
      clear c0 c4 c5 c6 c7 c8
      go_wp2_with fail
      refine (len0 (Scope.open1 S3.out) (by simp [MS.put, MS.set, MS.zero])).mono ?_
      rintro e wl ⟨he, rfl⟩
      rw [Hl.out] at he
      subst he
      go_wp2_with fail
      refine ((tput_no u.who u.obj u.i 1048577 0 (by unfold I64; omega) (by decide)).at0 S3.out).mono ?_
      rintro e w4 ⟨rfl, s4⟩
      have S4 := Lib.hid s4
      clear s4 c1 c2 c3
      obtain ⟨c0, c1, c2, c3, c4, c5, c6, c7, c8⟩ := (S4.out.rowm (k := B) (vs := u.cells) (t := 39) (by simp)).cells9
      clear c0 c4 c5 c6 c7 c8
      go_wp2_with fail
      refine ((tput_no u.who u.obj u.i (-1) 0 (by unfold I64; omega) (by decide)).at0 S4.out).mono ?_
      rintro e w5 ⟨rfl, s5⟩
      have S5 := Lib.hid s5
      clear s5 c1 c2 c3
      obtain ⟨c0, c1, c2, c3, c4, c5, c6, c7, c8⟩ := (S5.out.rowm (k := B) (vs := u.cells) (t := 39) (by simp)).cells9
      clear c0 c4 c5 c6 c7 c8
      go_wp2_with fail
      refine ((tput_no u.who u.obj u.i 0 (-1) (by unfold I64; omega) (by decide)).at0 S5.out).mono ?_
      rintro e w6 ⟨rfl, s6⟩
      have S6 := Lib.hid s6
      clear s6 c1 c2 c3
      obtain ⟨c0, c1, c2, c3, c4, c5, c6, c7, c8⟩ := (S6.out.rowm (k := B) (vs := u.cells) (t := 39) (by simp)).cells9
      clear c0 c4 c5 c6 c7 c8
      go_wp2_with fail
      refine ((tput_no u.who u.obj u.i 0 4294967296 (by unfold I64; omega) (by decide)).at0 S6.out).mono ?_
      rintro e w7 ⟨rfl, s7⟩
      have S7 := Lib.hid s7
      clear s7 c1 c2 c3
      obtain ⟨c0, c1, c2, c3, c4, c5, c6, c7, c8⟩ := (S7.out.rowm (k := B) (vs := u.cells) (t := 39) (by simp)).cells9
      clear c0 c4 c5 c6 c7 c8
      go_wp2_with fail
      refine (len0 (Scope.open1 S7.out) (by simp [MS.put, MS.set, MS.zero])).mono ?_
      rintro e wl ⟨he, rfl⟩
      rw [Hl.out] at he
      subst he
      go_wp2_with fail
      refine ((tput_yes u.who u.obj u.i 1048576 4294967295 Wu.out.2.2.1 Wu.out.2.2.2.1 (by simp [MS.put, MS.set, MS.zero]) (by omega) (by omega) (by omega) (by omega)).at0 S7.out).mono ?_
      rintro e w8 ⟨rfl, s8⟩
      have S8 := Lib.hid s8
      clear s8 c1 c2 c3
      obtain ⟨c0, c1, c2, c3, c4, c5, c6, c7, c8⟩ := (S8.out.rowm (k := B) (vs := u.cells) (t := 39) (by simp)).cells9
      clear c0 c4 c5 c6 c7 c8
      have hnum : ∀ τ : MS, ((τ.put u.who 2 (slotL u.obj u.i)).set (slotL u.obj u.i) (slotN 1048576 4294967295)).num (slotL u.obj u.i) = slotN 1048576 4294967295 := fun τ => by simp [MS.set]
      have Hnum := Lib.hid hnum
      clear hnum
      go_wp2_with fail
      refine ((tslot_does u.who u.obj u.i Wu.out.2.2.1 Wu.out.2.2.2.1 (by simp [MS.put, MS.set, MS.zero]) (by rw [Hnum.out]; exact slotN_u (by omega) (by omega) (by omega) (by omega))).at0 S8.out).mono ?_
      rintro e w9 ⟨he, s9⟩
      rw [Hnum.out, slot_top] at he
      subst he
      have S9 := Lib.hid s9
      clear s9 c1 c2 c3
      go_wp2
      go_ret
      exact ⟨rfl, S9.out.below⟩
    · have a3 : 4294967296 ≤ obj := by omega
      have e4 : IntKind.u64.wrap obj = obj := by rw [IntKind.wrap_u64]; omega
      clear hb' ob
      obtain ⟨c0, c1, c2, c3, c4, c5, c6, c7, c8⟩ := (S2.out.rowm (k := B) (vs := u.cells) (t := 39) (by simp)).cells9
      clear c0 c4 c5 c6 c7 c8
      go_wp2_with fail
      refine ((tput_no u.who u.obj u.i flow obj Ho.out Hb.out).at0 S2.out).mono ?_
      rintro e w3 ⟨rfl, s3⟩
      have S3 := Lib.hid (show Scope [] w w3 [tabA p m sh sl MS.zero, rtabA q x 0 sh sl MS.zero, box B u.cells 39] from s3)
      clear s3 c1 c2 c3
      have hl : ((MS.zero).log.length : Int) = 0 := by simp [MS.put, MS.set, MS.zero]
      have Hl := Lib.hid hl
      clear hl
      obtain ⟨c0, c1, c2, c3, c4, c5, c6, c7, c8⟩ := (S3.out.rowm (k := B) (vs := u.cells) (t := 39) (by simp)).cells9
      clear c0 c4 c5 c6 c7 c8
      go_wp2_with fail
      refine (len0 (Scope.open1 S3.out) (by simp [MS.put, MS.set, MS.zero])).mono ?_
      rintro e wl ⟨he, rfl⟩
      rw [Hl.out] at he
      subst he
      go_wp2_with fail
      refine ((tput_no u.who u.obj u.i 1048577 0 (by unfold I64; omega) (by decide)).at0 S3.out).mono ?_
      rintro e w4 ⟨rfl, s4⟩
      have S4 := Lib.hid s4
      clear s4 c1 c2 c3
      obtain ⟨c0, c1, c2, c3, c4, c5, c6, c7, c8⟩ := (S4.out.rowm (k := B) (vs := u.cells) (t := 39) (by simp)).cells9
      clear c0 c4 c5 c6 c7 c8
      go_wp2_with fail
      refine ((tput_no u.who u.obj u.i (-1) 0 (by unfold I64; omega) (by decide)).at0 S4.out).mono ?_
      rintro e w5 ⟨rfl, s5⟩
      have S5 := Lib.hid s5
      clear s5 c1 c2 c3
      obtain ⟨c0, c1, c2, c3, c4, c5, c6, c7, c8⟩ := (S5.out.rowm (k := B) (vs := u.cells) (t := 39) (by simp)).cells9
      clear c0 c4 c5 c6 c7 c8
      go_wp2_with fail
      refine ((tput_no u.who u.obj u.i 0 (-1) (by unfold I64; omega) (by decide)).at0 S5.out).mono ?_
      rintro e w6 ⟨rfl, s6⟩
      have S6 := Lib.hid s6
      clear s6 c1 c2 c3
      obtain ⟨c0, c1, c2, c3, c4, c5, c6, c7, c8⟩ := (S6.out.rowm (k := B) (vs := u.cells) (t := 39) (by simp)).cells9
      clear c0 c4 c5 c6 c7 c8
      go_wp2_with fail
      refine ((tput_no u.who u.obj u.i 0 4294967296 (by unfold I64; omega) (by decide)).at0 S6.out).mono ?_
      rintro e w7 ⟨rfl, s7⟩
      have S7 := Lib.hid s7
      clear s7 c1 c2 c3
      obtain ⟨c0, c1, c2, c3, c4, c5, c6, c7, c8⟩ := (S7.out.rowm (k := B) (vs := u.cells) (t := 39) (by simp)).cells9
      clear c0 c4 c5 c6 c7 c8
      go_wp2_with fail
      refine (len0 (Scope.open1 S7.out) (by simp [MS.put, MS.set, MS.zero])).mono ?_
      rintro e wl ⟨he, rfl⟩
      rw [Hl.out] at he
      subst he
      go_wp2_with fail
      refine ((tput_yes u.who u.obj u.i 1048576 4294967295 Wu.out.2.2.1 Wu.out.2.2.2.1 (by simp [MS.put, MS.set, MS.zero]) (by omega) (by omega) (by omega) (by omega)).at0 S7.out).mono ?_
      rintro e w8 ⟨rfl, s8⟩
      have S8 := Lib.hid s8
      clear s8 c1 c2 c3
      obtain ⟨c0, c1, c2, c3, c4, c5, c6, c7, c8⟩ := (S8.out.rowm (k := B) (vs := u.cells) (t := 39) (by simp)).cells9
      clear c0 c4 c5 c6 c7 c8
      have hnum : ∀ τ : MS, ((τ.put u.who 2 (slotL u.obj u.i)).set (slotL u.obj u.i) (slotN 1048576 4294967295)).num (slotL u.obj u.i) = slotN 1048576 4294967295 := fun τ => by simp [MS.set]
      have Hnum := Lib.hid hnum
      clear hnum
      go_wp2_with fail
      refine ((tslot_does u.who u.obj u.i Wu.out.2.2.1 Wu.out.2.2.2.1 (by simp [MS.put, MS.set, MS.zero]) (by rw [Hnum.out]; exact slotN_u (by omega) (by omega) (by omega) (by omega))).at0 S8.out).mono ?_
      rintro e w9 ⟨he, s9⟩
      rw [Hnum.out, slot_top] at he
      subst he
      have S9 := Lib.hid s9
      clear s9 c1 c2 c3
      go_wp2
      go_ret
      exact ⟨rfl, S9.out.below⟩
end Go.Proofs.Ytjipjhmcpjffcab
