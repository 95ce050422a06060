/- MemRaw: at any two places, whoever comes and whatever the numbers are, the walk of the statement comes to true and turns nothing that was there. -/
import Derived.Test.YtcbipbnomgdklaaLaw16
namespace Go.Proofs.Ytcbipbnomgdklaa
open Go Go.RowKit Go.Maps

section
variable (who : Int) (x y : Lc) (a b : Int)
def raw1 : MS := MS.zero.put who 1 x
def raw2 : MS := ((raw1 who x).put who 3 x).set x a
def raw3 : MS := ((raw2 who x a).put who 3 x).set x (IntKind.u64.wrap ((raw2 who x a).num x + b))
def raw4 : MS := (raw3 who x a b).put who 1 x
theorem raw1_num : (raw1 who x).num x = 0 := rfl
theorem raw2_num : (raw2 who x a).num x = a := by simp [raw2, MS.set]
theorem raw3_num : (raw3 who x a b).num x = IntKind.u64.wrap (a + b) := by simp [raw3, MS.set, raw2_num]
theorem raw4_num : (raw4 who x a b).num x = IntKind.u64.wrap (a + b) := raw3_num who x a b
theorem raw4_other (h : y ≠ x) : (raw4 who x a b).num y = 0 := by
  show (raw3 who x a b).num y = 0
  unfold raw3 MS.set
  simp only [if_neg h]
  show (raw2 who x a).num y = 0
  unfold raw2 MS.set
  simp only [if_neg h]
  rfl
def raw5 : MS := ((raw4 who x a b).put who 2 y).set y b
theorem raw5_y : (raw5 who x y a b).num y = b := by simp [raw5, MS.set]
theorem raw5_x (h : y ≠ x) : (raw5 who x y a b).num x = IntKind.u64.wrap (a + b) := by
  unfold raw5 MS.set
  simp only [if_neg (fun e : x = y => h e.symm)]
  exact raw4_num who x a b
theorem raw1_len : (raw1 who x).log.length ≤ 1000000 := by simp [raw1, MS.put, MS.zero]
theorem raw2_len : (raw2 who x a).log.length ≤ 1000000 := by simp [raw2, raw1, MS.put, MS.zero, MS.set]
theorem raw3_len : (raw3 who x a b).log.length ≤ 1000000 := by simp [raw3, raw2, raw1, MS.put, MS.zero, MS.set]
theorem raw4_len : (raw4 who x a b).log.length = 4 := by simp [raw4, raw3, raw2, raw1, MS.put, MS.zero, MS.set]
theorem raw5_len : (raw5 who x y a b).log.length = 5 := by simp [raw5, raw4, raw3, raw2, raw1, MS.put, MS.zero, MS.set]
end

set_option maxHeartbeats 2000000 in
set_option maxRecDepth 100000 in
theorem memRaw_ne (who : Int) (x y : Lc) (a b : Int) (hx : x.wf) (hy : y.wf) (ha : U64 a) (hb : U64 b) (hne : y ≠ x) (w : World) :
    Calls Try.prog 4 #[.int .i64 who, x.val, y.val, .int .u64 a, .int .u64 b] w fun e w' => e = .returned (.bool true) ∧ Below w.heap.size w w' := by
  have s0 : Scope [] w ((w.alloc (.cells #[.int .i64 x.k, .int .i64 x.a, .int .i64 x.b] 23)).alloc (.cells #[.int .i64 y.k, .int .i64 y.a, .int .i64 y.b] 23)) [box w.heap.size [.int .i64 x.k, .int .i64 x.a, .int .i64 x.b] 23, box (w.heap.size + 1) [.int .i64 y.k, .int .i64 y.a, .int .i64 y.b] 23] := by
    have := ((Scope.empty w).box [.int .i64 x.k, .int .i64 x.a, .int .i64 x.b] 23).box [.int .i64 y.k, .int .i64 y.a, .int .i64 y.b] 23
    simpa using this
  have H0 := Lib.hid s0
  have t1 := fun W => equal_loc_no (fun e => hne e.symm : x ≠ y) W
  have Hx := Lib.hid hx; have Hy := Lib.hid hy; have Ha := Lib.hid ha; have Hb := Lib.hid hb; have Hne := Lib.hid hne
  clear s0 hx hy ha hb hne
  unfold Lc.val
  go_enter Try.func4, Try.ntmps4
  go_wp2_with fail
  refine (new_scope H0.out).mono ?_
  rintro e w1 ⟨p, rfl, s1⟩
  have S1 := Lib.hid s1
  clear s1
  go_wp2_with fail
  refine (awake16_scope S1.out).mono ?_
  rintro e w2 ⟨rfl, s2⟩
  obtain ⟨d0, d1, d2⟩ := (s2.row 1 rfl).cells3
  have S2 := Lib.hid s2
  clear s2
  go_wp2_with fail
  refine ((load_does who x Hx.out (by simp [MS.zero])).call S2.out).mono ?_
  rintro e w3 ⟨he, s3⟩
  rw [show MS.zero.num x = 0 from rfl] at he
  subst he
  obtain ⟨e0, e1, e2⟩ := (s3.row 1 rfl).cells3
  have S3 := Lib.hid (show Scope [] w w3 ([memA p (raw1 who x)] ++ [box w.heap.size [.int .i64 x.k, .int .i64 x.a, .int .i64 x.b] 23, box (w.heap.size + 1) [.int .i64 y.k, .int .i64 y.a, .int .i64 y.b] 23]) from s3)
  clear s3 d0 d1 d2
  go_wp2_with fail
  refine ((take_does who x Hx.out a Ha.out (raw1_len who x)).call S3.out).mono ?_
  rintro e w4 ⟨he, s4⟩
  rw [raw1_num] at he
  subst he
  obtain ⟨d0, d1, d2⟩ := (s4.row 1 rfl).cells3
  have S4 := Lib.hid (show Scope [] w w4 ([memA p (raw2 who x a)] ++ [box w.heap.size [.int .i64 x.k, .int .i64 x.a, .int .i64 x.b] 23, box (w.heap.size + 1) [.int .i64 y.k, .int .i64 y.a, .int .i64 y.b] 23]) from s4)
  clear s4 e0 e1 e2
  go_wp2_with fail
  refine ((add_does who x Hx.out b Hb.out (raw2_len who x a)).call S4.out).mono ?_
  rintro e w5 ⟨he, s5⟩
  rw [raw2_num] at he
  subst he
  obtain ⟨e0, e1, e2⟩ := (s5.row 1 rfl).cells3
  have S5 := Lib.hid (show Scope [] w w5 ([memA p (raw3 who x a b)] ++ [box w.heap.size [.int .i64 x.k, .int .i64 x.a, .int .i64 x.b] 23, box (w.heap.size + 1) [.int .i64 y.k, .int .i64 y.a, .int .i64 y.b] 23]) from s5)
  clear s5 d0 d1 d2
  go_wp2_with fail
  refine ((load_does who x Hx.out (raw3_len who x a b)).call S5.out).mono ?_
  rintro e w6 ⟨he, s6⟩
  rw [raw3_num] at he
  subst he
  obtain ⟨d0, d1, d2⟩ := (s6.row 1 rfl).cells3
  obtain ⟨f0, f1, f2⟩ := (s6.row 2 rfl).cells3
  have S6 := Lib.hid (show Scope [] w w6 ([memA p (raw4 who x a b)] ++ [box w.heap.size [.int .i64 x.k, .int .i64 x.a, .int .i64 x.b] 23, box (w.heap.size + 1) [.int .i64 y.k, .int .i64 y.a, .int .i64 y.b] 23]) from s6)
  clear s6 e0 e1 e2
  go_wp2_with fail
  refine ((peek_does y Hy.out).call S6.out).mono ?_
  rintro e w7 ⟨he, s7⟩
  rw [raw4_other who x y a b Hne.out] at he
  subst he
  obtain ⟨g0, g1, g2⟩ := (s7.row 2 rfl).cells3
  have S7 := Lib.hid s7
  clear s7 d0 d1 d2 f0 f1 f2
  go_wp2_with fail
  refine ((store_does who y Hy.out b Hb.out (by rw [raw4_len]; omega)).call S7.out).mono ?_
  rintro e w8 ⟨he, s8⟩
  subst he
  obtain ⟨d0, d1, d2⟩ := (s8.row 1 rfl).cells3
  obtain ⟨f0, f1, f2⟩ := (s8.row 2 rfl).cells3
  have S8 := Lib.hid (show Scope [] w w8 ([memA p (raw5 who x y a b)] ++ [box w.heap.size [.int .i64 x.k, .int .i64 x.a, .int .i64 x.b] 23, box (w.heap.size + 1) [.int .i64 y.k, .int .i64 y.a, .int .i64 y.b] 23]) from s8)
  clear s8 g0 g1 g2
  go_wp2_with fail
  refine ((peek_does x Hx.out).call S8.out).mono ?_
  rintro e w9 ⟨he, s9⟩
  rw [raw5_x who x y a b Hne.out] at he
  subst he
  obtain ⟨g0, g1, g2⟩ := (s9.row 2 rfl).cells3
  have S9 := Lib.hid s9
  clear s9 d0 d1 d2 f0 f1 f2
  go_wp2_with fail
  refine ((peek_does y Hy.out).call S9.out).mono ?_
  rintro e w10 ⟨he, s10⟩
  rw [raw5_y] at he
  subst he
  have S10 := Lib.hid s10
  clear s10 g0 g1 g2
  go_wp2_with fail
  refine ((len_does (by rw [raw5_len]; omega)).call S10.out).mono ?_
  rintro e w11 ⟨he, s11⟩
  rw [raw5_len] at he
  subst he
  have S11 := Lib.hid s11
  clear s11
  go_wp2
  go_ret
  exact ⟨rfl, S11.out.below⟩

set_option maxHeartbeats 2000000 in
set_option maxRecDepth 100000 in
theorem memRaw_eq (who : Int) (x : Lc) (a b : Int) (hx : x.wf) (ha : U64 a) (hb : U64 b) (w : World) :
    Calls Try.prog 4 #[.int .i64 who, x.val, x.val, .int .u64 a, .int .u64 b] w fun e w' => e = .returned (.bool true) ∧ Below w.heap.size w w' := by
  have s0 : Scope [] w ((w.alloc (.cells #[.int .i64 x.k, .int .i64 x.a, .int .i64 x.b] 23)).alloc (.cells #[.int .i64 x.k, .int .i64 x.a, .int .i64 x.b] 23)) [box w.heap.size [.int .i64 x.k, .int .i64 x.a, .int .i64 x.b] 23, box (w.heap.size + 1) [.int .i64 x.k, .int .i64 x.a, .int .i64 x.b] 23] := by
    have := ((Scope.empty w).box [.int .i64 x.k, .int .i64 x.a, .int .i64 x.b] 23).box [.int .i64 x.k, .int .i64 x.a, .int .i64 x.b] 23
    simpa using this
  have H0 := Lib.hid s0
  have Hx := Lib.hid hx; have Ha := Lib.hid ha; have Hb := Lib.hid hb
  clear s0 hx ha hb
  unfold Lc.val
  go_enter Try.func4, Try.ntmps4
  go_wp2_with fail
  refine (new_scope H0.out).mono ?_
  rintro e w1 ⟨p, rfl, s1⟩
  have S1 := Lib.hid s1
  clear s1
  go_wp2_with fail
  refine (awake16_scope S1.out).mono ?_
  rintro e w2 ⟨rfl, s2⟩
  obtain ⟨d0, d1, d2⟩ := (s2.row 1 rfl).cells3
  have S2 := Lib.hid s2
  clear s2
  go_wp2_with fail
  refine ((load_does who x Hx.out (by simp [MS.zero])).call S2.out).mono ?_
  rintro e w3 ⟨he, s3⟩
  rw [show MS.zero.num x = 0 from rfl] at he
  subst he
  obtain ⟨e0, e1, e2⟩ := (s3.row 1 rfl).cells3
  have S3 := Lib.hid (show Scope [] w w3 ([memA p (raw1 who x)] ++ [box w.heap.size [.int .i64 x.k, .int .i64 x.a, .int .i64 x.b] 23, box (w.heap.size + 1) [.int .i64 x.k, .int .i64 x.a, .int .i64 x.b] 23]) from s3)
  clear s3 d0 d1 d2
  go_wp2_with fail
  refine ((take_does who x Hx.out a Ha.out (raw1_len who x)).call S3.out).mono ?_
  rintro e w4 ⟨he, s4⟩
  rw [raw1_num] at he
  subst he
  obtain ⟨d0, d1, d2⟩ := (s4.row 1 rfl).cells3
  have S4 := Lib.hid (show Scope [] w w4 ([memA p (raw2 who x a)] ++ [box w.heap.size [.int .i64 x.k, .int .i64 x.a, .int .i64 x.b] 23, box (w.heap.size + 1) [.int .i64 x.k, .int .i64 x.a, .int .i64 x.b] 23]) from s4)
  clear s4 e0 e1 e2
  go_wp2_with fail
  refine ((add_does who x Hx.out b Hb.out (raw2_len who x a)).call S4.out).mono ?_
  rintro e w5 ⟨he, s5⟩
  rw [raw2_num] at he
  subst he
  obtain ⟨e0, e1, e2⟩ := (s5.row 1 rfl).cells3
  have S5 := Lib.hid (show Scope [] w w5 ([memA p (raw3 who x a b)] ++ [box w.heap.size [.int .i64 x.k, .int .i64 x.a, .int .i64 x.b] 23, box (w.heap.size + 1) [.int .i64 x.k, .int .i64 x.a, .int .i64 x.b] 23]) from s5)
  clear s5 d0 d1 d2
  go_wp2_with fail
  refine ((load_does who x Hx.out (raw3_len who x a b)).call S5.out).mono ?_
  rintro e w6 ⟨he, s6⟩
  rw [raw3_num] at he
  subst he
  obtain ⟨d0, d1, d2⟩ := (s6.row 1 rfl).cells3
  obtain ⟨f0, f1, f2⟩ := (s6.row 2 rfl).cells3
  have S6 := Lib.hid (show Scope [] w w6 ([memA p (raw4 who x a b)] ++ [box w.heap.size [.int .i64 x.k, .int .i64 x.a, .int .i64 x.b] 23, box (w.heap.size + 1) [.int .i64 x.k, .int .i64 x.a, .int .i64 x.b] 23]) from s6)
  clear s6 e0 e1 e2
  go_wp2_with fail
  refine ((store_does who x Hx.out b Hb.out (by rw [raw4_len]; omega)).call S6.out).mono ?_
  rintro e w8 ⟨he, s8⟩
  subst he
  obtain ⟨g0, g1, g2⟩ := (s8.row 1 rfl).cells3
  obtain ⟨h0, h1, h2⟩ := (s8.row 2 rfl).cells3
  have S8 := Lib.hid (show Scope [] w w8 ([memA p (raw5 who x x a b)] ++ [box w.heap.size [.int .i64 x.k, .int .i64 x.a, .int .i64 x.b] 23, box (w.heap.size + 1) [.int .i64 x.k, .int .i64 x.a, .int .i64 x.b] 23]) from s8)
  clear s8 d0 d1 d2 f0 f1 f2
  go_wp2_with fail
  refine ((peek_does x Hx.out).call S8.out).mono ?_
  rintro e w9 ⟨he, s9⟩
  rw [raw5_y] at he
  subst he
  obtain ⟨d0, d1, d2⟩ := (s9.row 2 rfl).cells3
  have S9 := Lib.hid s9
  clear s9 g0 g1 g2 h0 h1 h2
  go_wp2_with fail
  refine ((peek_does x Hx.out).call S9.out).mono ?_
  rintro e w10 ⟨he, s10⟩
  rw [raw5_y] at he
  subst he
  have S10 := Lib.hid s10
  clear s10 d0 d1 d2
  go_wp2_with fail
  refine ((len_does (by rw [raw5_len]; omega)).call S10.out).mono ?_
  rintro e w11 ⟨he, s11⟩
  rw [raw5_len] at he
  subst he
  have S11 := Lib.hid s11
  clear s11
  go_wp2
  go_ret
  exact ⟨rfl, S11.out.below⟩

theorem memRaw_any (who : Int) (x y : Lc) (a b : Int) (hx : x.wf) (hy : y.wf) (ha : U64 a) (hb : U64 b) (w : World) :
    Calls Try.prog 4 #[.int .i64 who, x.val, y.val, .int .u64 a, .int .u64 b] w fun e w' => e = .returned (.bool true) ∧ Below w.heap.size w w' := by
  by_cases h : y = x
  · subst h
    exact memRaw_eq who y a b hx ha hb w
  · exact memRaw_ne who x y a b hx hy ha hb h w

theorem memRaw_row (who : Int) (x y : Lc) (a b : Int) (_ : I64 who) (hx : x.wf) (hy : y.wf) (ha : U64 a) (hb : U64 b) (w : World) :
    Calls Try.prog 4 #[.int .i64 who, x.val, y.val, .int .u64 a, .int .u64 b] w fun e w' => e = .returned (.bool true) ∧ Below w.heap.size w w' := memRaw_any who x y a b hx hy ha hb w
end Go.Proofs.Ytcbipbnomgdklaa
