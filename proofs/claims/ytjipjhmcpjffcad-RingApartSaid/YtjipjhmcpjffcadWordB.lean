/- More, Rest, Shut of package word, and Turned of the reference's. -/
import Derived.Test.YtjipjhmcpjffcadWord
set_option linter.unusedSimpArgs false
set_option linter.unusedVariables false
set_option maxRecDepth 20000
namespace Go.Proofs.Ytjipjhmcpjffcad
open Go Go.RowKit Go.Maps
set_option maxHeartbeats 1000000
theorem cnt_is {x : Int} (h : wS x < 3) : wcnt x = wC x := if_pos h
theorem st_is {x : Int} (h : wS x < 3) : wst x = wS x := if_pos h
theorem parts_is {x : Int} (h : wS x < 3) : partsR x = .tuple #[.int .u64 (wC x), .int .i64 (wS x), .bool true] := by simp [partsR, wcnt, wst, h]
theorem parts_no {x : Int} (h : 3 ≤ wS x) : partsR x = .tuple #[.int .u64 0, .int .i64 (-1), .bool false] := by
  have h : ¬ wS x < 3 := by omega
  simp [partsR, wcnt, wst, h]
theorem more_yes {x : Int} (h : U64 x) (h1 : wS x < 2) (h2 : wC x < 2305843009213693951) : Same 37 #[.int .u64 x] (.tuple #[.int .u64 (wpk (wC x + 1) 1), .bool true]) := fun w => by
  have b0 := (wS_b h).1; have b1 := (wS_b h).2; have c0 := (wC_b x).1; have c1 := (wC_b x).2
  have Hd := Lib.hid (decide_eq_true (show wS x < 3 by omega)); have Hs := Lib.hid (st_is (show wS x < 3 by omega)); have Hc := Lib.hid (cnt_is (show wS x < 3 by omega))
  have n2 : (wS x == 2) = false := beq_eq_false_iff_ne.2 (by omega)
  have n3 : (wC x == 2305843009213693951) = false := beq_eq_false_iff_ne.2 (by omega)
  have e1 : IntKind.u64.wrap (wC x + 1) = wC x + 1 := by rw [IntKind.wrap_u64]; omega
  have H := Lib.hid h
  clear h
  go_enter Try.func37, Try.ntmps37
  go_wp2_with fail
  refine (right_same H.out _).mono ?_
  rintro e w1 ⟨he, rfl⟩
  rw [show decide (wS x < 3) = true from Hd.out] at he
  subst he
  go_wp2_with fail
  refine (state_same H.out _).mono ?_
  rintro e w1 ⟨he, rfl⟩
  rw [show wst x = wS x from Hs.out] at he
  subst he
  go_wp2_with fail
  refine (count_same H.out _).mono ?_
  rintro e w1 ⟨he, rfl⟩
  rw [show wcnt x = wC x from Hc.out] at he
  subst he
  go_wp2_with fail
  refine (count_same H.out _).mono ?_
  rintro e w1 ⟨he, rfl⟩
  rw [show wcnt x = wC x from Hc.out] at he
  subst he
  go_wp2_with fail
  refine (pack_same (n := wC x + 1) (s := 1) (by omega) (by omega) (by omega) (by omega) _).mono ?_
  rintro e w1 ⟨rfl, rfl⟩
  go_wp2
  go_ret2
  exact ⟨rfl, rfl⟩
theorem more_no3 {x : Int} (h : U64 x) (h1 : 3 ≤ wS x) : Same 37 #[.int .u64 x] (.tuple #[.int .u64 0, .bool false]) := fun w => by
  have b0 := (wS_b h).1; have b1 := (wS_b h).2; have c0 := (wC_b x).1; have c1 := (wC_b x).2
  have Hd := Lib.hid (decide_eq_false (show ¬ wS x < 3 by omega)); have Hs := Lib.hid (show wst x = -1 from if_neg (by omega))
  have H := Lib.hid h
  clear h
  go_enter Try.func37, Try.ntmps37
  go_wp2_with fail
  refine (right_same H.out _).mono ?_
  rintro e w1 ⟨he, rfl⟩
  rw [show decide (wS x < 3) = false from Hd.out] at he
  subst he
  go_wp2
  go_ret2
  exact ⟨rfl, rfl⟩
theorem more_no2 {x : Int} (h : U64 x) (h1 : wS x = 2) : Same 37 #[.int .u64 x] (.tuple #[.int .u64 0, .bool false]) := fun w => by
  have b0 := (wS_b h).1; have b1 := (wS_b h).2; have c0 := (wC_b x).1; have c1 := (wC_b x).2
  have Hd := Lib.hid (decide_eq_true (show wS x < 3 by omega)); have Hs := Lib.hid (st_is (show wS x < 3 by omega)); have Hc := Lib.hid (cnt_is (show wS x < 3 by omega))
  have Hs2 := Lib.hid (show wst x = 2 by rw [Hs.out, h1])
  clear h1 b0 b1
  have H := Lib.hid h
  clear h
  go_enter Try.func37, Try.ntmps37
  go_wp2_with fail
  refine (right_same H.out _).mono ?_
  rintro e w1 ⟨he, rfl⟩
  rw [show decide (wS x < 3) = true from Hd.out] at he
  subst he
  go_wp2_with fail
  refine (state_same H.out _).mono ?_
  rintro e w1 ⟨he, rfl⟩
  rw [show wst x = 2 from Hs2.out] at he
  subst he
  go_wp2
  go_ret2
  exact ⟨rfl, rfl⟩
theorem more_noC {x : Int} (h : U64 x) (h1 : wS x < 2) (h2 : wC x = 2305843009213693951) : Same 37 #[.int .u64 x] (.tuple #[.int .u64 0, .bool false]) := fun w => by
  have b0 := (wS_b h).1; have b1 := (wS_b h).2; have c0 := (wC_b x).1; have c1 := (wC_b x).2
  have Hd := Lib.hid (decide_eq_true (show wS x < 3 by omega)); have Hs := Lib.hid (st_is (show wS x < 3 by omega)); have Hc := Lib.hid (cnt_is (show wS x < 3 by omega))
  have n2 : (wS x == 2) = false := beq_eq_false_iff_ne.2 (by omega)
  have Hc2 := Lib.hid (show wcnt x = 2305843009213693951 by rw [Hc.out, h2])
  clear h2 c0 c1
  have H := Lib.hid h
  clear h
  go_enter Try.func37, Try.ntmps37
  go_wp2_with fail
  refine (right_same H.out _).mono ?_
  rintro e w1 ⟨he, rfl⟩
  rw [show decide (wS x < 3) = true from Hd.out] at he
  subst he
  go_wp2_with fail
  refine (state_same H.out _).mono ?_
  rintro e w1 ⟨he, rfl⟩
  rw [show wst x = wS x from Hs.out] at he
  subst he
  go_wp2_with fail
  refine (count_same H.out _).mono ?_
  rintro e w1 ⟨he, rfl⟩
  rw [show wcnt x = 2305843009213693951 from Hc2.out] at he
  subst he
  go_wp2
  go_ret2
  exact ⟨rfl, rfl⟩
theorem rest_yes {x : Int} (h : U64 x) (h1 : wS x = 1) : Same 45 #[.int .u64 x] (.tuple #[.int .u64 (wpk (wC x) 0), .bool true]) := fun w => by
  have b0 := (wS_b h).1; have b1 := (wS_b h).2; have c0 := (wC_b x).1; have c1 := (wC_b x).2
  have Hd := Lib.hid (decide_eq_true (show wS x < 3 by omega)); have Hs := Lib.hid (st_is (show wS x < 3 by omega)); have Hc := Lib.hid (cnt_is (show wS x < 3 by omega))
  have Hs2 := Lib.hid (show wst x = 1 by rw [Hs.out, h1])
  clear h1 b0 b1
  have H := Lib.hid h
  clear h
  go_enter Try.func45, Try.ntmps45
  go_wp2_with fail
  refine (state_same H.out _).mono ?_
  rintro e w1 ⟨he, rfl⟩
  rw [show wst x = 1 from Hs2.out] at he
  subst he
  go_wp2_with fail
  refine (count_same H.out _).mono ?_
  rintro e w1 ⟨he, rfl⟩
  rw [show wcnt x = wC x from Hc.out] at he
  subst he
  go_wp2_with fail
  refine (pack_same (n := wC x) (s := 0) (by omega) (by omega) (by omega) (by omega) _).mono ?_
  rintro e w1 ⟨rfl, rfl⟩
  go_wp2
  go_ret2
  exact ⟨rfl, rfl⟩
theorem rest_no {x : Int} (h : U64 x) (h1 : ¬ wst x = 1) : Same 45 #[.int .u64 x] (.tuple #[.int .u64 0, .bool false]) := fun w => by
  have b0 := (wS_b h).1; have b1 := (wS_b h).2; have c0 := (wC_b x).1; have c1 := (wC_b x).2
  have n1 : (wst x == 1) = false := beq_eq_false_iff_ne.2 h1
  have n2 : (wst x != 1) = true := bne_iff_ne.2 h1
  clear h1
  have H := Lib.hid h
  clear h
  go_enter Try.func45, Try.ntmps45
  go_wp2_with fail
  refine (state_same H.out _).mono ?_
  rintro e w1 ⟨rfl, rfl⟩
  go_wp2
  go_ret2
  exact ⟨rfl, rfl⟩
theorem shut_yes {x : Int} (h : U64 x) (h1 : wS x = 0) : Same 44 #[.int .u64 x] (.tuple #[.int .u64 (wpk (wC x) 2), .bool true]) := fun w => by
  have b0 := (wS_b h).1; have b1 := (wS_b h).2; have c0 := (wC_b x).1; have c1 := (wC_b x).2
  have Hd := Lib.hid (decide_eq_true (show wS x < 3 by omega)); have Hs := Lib.hid (st_is (show wS x < 3 by omega)); have Hc := Lib.hid (cnt_is (show wS x < 3 by omega))
  have Hs2 := Lib.hid (show wst x = 0 by rw [Hs.out, h1])
  clear h1 b0 b1
  have H := Lib.hid h
  clear h
  go_enter Try.func44, Try.ntmps44
  go_wp2_with fail
  refine (state_same H.out _).mono ?_
  rintro e w1 ⟨he, rfl⟩
  rw [show wst x = 0 from Hs2.out] at he
  subst he
  go_wp2_with fail
  refine (count_same H.out _).mono ?_
  rintro e w1 ⟨he, rfl⟩
  rw [show wcnt x = wC x from Hc.out] at he
  subst he
  go_wp2_with fail
  refine (pack_same (n := wC x) (s := 2) (by omega) (by omega) (by omega) (by omega) _).mono ?_
  rintro e w1 ⟨rfl, rfl⟩
  go_wp2
  go_ret2
  exact ⟨rfl, rfl⟩
theorem shut_no {x : Int} (h : U64 x) (h1 : ¬ wst x = 0) : Same 44 #[.int .u64 x] (.tuple #[.int .u64 0, .bool false]) := fun w => by
  have b0 := (wS_b h).1; have b1 := (wS_b h).2; have c0 := (wC_b x).1; have c1 := (wC_b x).2
  have n1 : (wst x == 0) = false := beq_eq_false_iff_ne.2 h1
  have n2 : (wst x != 0) = true := bne_iff_ne.2 h1
  clear h1
  have H := Lib.hid h
  clear h
  go_enter Try.func44, Try.ntmps44
  go_wp2_with fail
  refine (state_same H.out _).mono ?_
  rintro e w1 ⟨rfl, rfl⟩
  go_wp2
  go_ret2
  exact ⟨rfl, rfl⟩
theorem turned0_no3 {x : Int} (h : U64 x) (h1 : 3 ≤ wS x) : Same 70 #[.int .u64 x, .int .i64 0] (.tuple #[.int .u64 0, .bool false]) := fun w => by
  have b0 := (wS_b h).1; have b1 := (wS_b h).2; have c0 := (wC_b x).1; have c1 := (wC_b x).2
  have Hp := Lib.hid h1
  have H := Lib.hid h
  clear h
  go_enter Try.func70, Try.ntmps70
  go_wp2_with fail
  refine (parts_same H.out _).mono ?_
  rintro e w1 ⟨he, rfl⟩
  rw [parts_no Hp.out] at he
  subst he
  go_wp2
  go_ret2
  exact ⟨rfl, rfl⟩
theorem turned1_no3 {x : Int} (h : U64 x) (h1 : 3 ≤ wS x) : Same 70 #[.int .u64 x, .int .i64 1] (.tuple #[.int .u64 0, .bool false]) := fun w => by
  have b0 := (wS_b h).1; have b1 := (wS_b h).2; have c0 := (wC_b x).1; have c1 := (wC_b x).2
  have Hp := Lib.hid h1
  have H := Lib.hid h
  clear h
  go_enter Try.func70, Try.ntmps70
  go_wp2_with fail
  refine (parts_same H.out _).mono ?_
  rintro e w1 ⟨he, rfl⟩
  rw [parts_no Hp.out] at he
  subst he
  go_wp2
  go_ret2
  exact ⟨rfl, rfl⟩
theorem turned2_no3 {x : Int} (h : U64 x) (h1 : 3 ≤ wS x) : Same 70 #[.int .u64 x, .int .i64 2] (.tuple #[.int .u64 0, .bool false]) := fun w => by
  have b0 := (wS_b h).1; have b1 := (wS_b h).2; have c0 := (wC_b x).1; have c1 := (wC_b x).2
  have Hp := Lib.hid h1
  have H := Lib.hid h
  clear h
  go_enter Try.func70, Try.ntmps70
  go_wp2_with fail
  refine (parts_same H.out _).mono ?_
  rintro e w1 ⟨he, rfl⟩
  rw [parts_no Hp.out] at he
  subst he
  go_wp2
  go_ret2
  exact ⟨rfl, rfl⟩
theorem turned0_yes {x : Int} (h : U64 x) (h1 : wS x < 2) (h2 : wC x < 2305843009213693951) : Same 70 #[.int .u64 x, .int .i64 0] (.tuple #[.int .u64 (wpk (wC x + 1) 1), .bool true]) := fun w => by
  have b0 := (wS_b h).1; have b1 := (wS_b h).2; have c0 := (wC_b x).1; have c1 := (wC_b x).2
  have Hp := Lib.hid (show wS x < 3 by omega)
  have n2 : (wS x == 2) = false := beq_eq_false_iff_ne.2 (by omega)
  have n3 : (wS x != 2) = true := bne_iff_ne.2 (by omega)
  have e1 : IntKind.u64.wrap (wC x + 1) = wC x + 1 := by rw [IntKind.wrap_u64]; omega
  have H := Lib.hid h
  clear h
  go_enter Try.func70, Try.ntmps70
  go_wp2_with fail
  refine (parts_same H.out _).mono ?_
  rintro e w1 ⟨he, rfl⟩
  rw [parts_is Hp.out] at he
  subst he
  go_wp2_with fail
  refine (rpack_same (n := wC x + 1) (s := 1) (by omega) (by omega) (by omega) (by omega) _).mono ?_
  rintro e w1 ⟨rfl, rfl⟩
  go_wp2
  go_ret2
  exact ⟨rfl, rfl⟩
theorem turned0_no2 {x : Int} (h : U64 x) (h1 : wS x = 2) : Same 70 #[.int .u64 x, .int .i64 0] (.tuple #[.int .u64 0, .bool false]) := fun w => by
  have b0 := (wS_b h).1; have b1 := (wS_b h).2; have c0 := (wC_b x).1; have c1 := (wC_b x).2
  have Hp := Lib.hid (show wS x < 3 by omega)
  have Hk := Lib.hid h1
  clear h1 b0 b1
  have H := Lib.hid h
  clear h
  go_enter Try.func70, Try.ntmps70
  go_wp2_with fail
  refine (parts_same H.out _).mono ?_
  rintro e w1 ⟨he, rfl⟩
  rw [parts_is Hp.out, show wS x = 2 from Hk.out] at he
  subst he
  go_wp2
  go_ret2
  exact ⟨rfl, rfl⟩
theorem turned0_noC {x : Int} (h : U64 x) (h1 : wS x < 2) (h2 : wC x = 2305843009213693951) : Same 70 #[.int .u64 x, .int .i64 0] (.tuple #[.int .u64 0, .bool false]) := fun w => by
  have b0 := (wS_b h).1; have b1 := (wS_b h).2; have c0 := (wC_b x).1; have c1 := (wC_b x).2
  have Hp := Lib.hid (show wS x < 3 by omega)
  have n2 : (wS x == 2) = false := beq_eq_false_iff_ne.2 (by omega)
  have n3 : (wS x != 2) = true := bne_iff_ne.2 (by omega)
  have Hc := Lib.hid h2
  clear h2 c0 c1
  have H := Lib.hid h
  clear h
  go_enter Try.func70, Try.ntmps70
  go_wp2_with fail
  refine (parts_same H.out _).mono ?_
  rintro e w1 ⟨he, rfl⟩
  rw [parts_is Hp.out, show wC x = 2305843009213693951 from Hc.out] at he
  subst he
  go_wp2
  go_ret2
  exact ⟨rfl, rfl⟩
theorem turned1_yes {x : Int} (h : U64 x) (h1 : wS x = 1) : Same 70 #[.int .u64 x, .int .i64 1] (.tuple #[.int .u64 (wpk (wC x) 0), .bool true]) := fun w => by
  have b0 := (wS_b h).1; have b1 := (wS_b h).2; have c0 := (wC_b x).1; have c1 := (wC_b x).2
  have Hp := Lib.hid (show wS x < 3 by omega)
  have Hk := Lib.hid h1
  clear h1 b0 b1
  have H := Lib.hid h
  clear h
  go_enter Try.func70, Try.ntmps70
  go_wp2_with fail
  refine (parts_same H.out _).mono ?_
  rintro e w1 ⟨he, rfl⟩
  rw [parts_is Hp.out, show wS x = 1 from Hk.out] at he
  subst he
  go_wp2_with fail
  refine (rpack_same (n := wC x) (s := 0) (by omega) (by omega) (by omega) (by omega) _).mono ?_
  rintro e w1 ⟨rfl, rfl⟩
  go_wp2
  go_ret2
  exact ⟨rfl, rfl⟩
theorem turned1_no {x : Int} (h : U64 x) (h1 : ¬ wS x = 1) (h3 : wS x < 3) : Same 70 #[.int .u64 x, .int .i64 1] (.tuple #[.int .u64 0, .bool false]) := fun w => by
  have b0 := (wS_b h).1; have b1 := (wS_b h).2; have c0 := (wC_b x).1; have c1 := (wC_b x).2
  have Hp := Lib.hid (show wS x < 3 by omega)
  have n1 : (wS x == 1) = false := beq_eq_false_iff_ne.2 h1
  clear h1
  have H := Lib.hid h
  clear h
  go_enter Try.func70, Try.ntmps70
  go_wp2_with fail
  refine (parts_same H.out _).mono ?_
  rintro e w1 ⟨he, rfl⟩
  rw [parts_is Hp.out] at he
  subst he
  go_wp2
  go_ret2
  exact ⟨rfl, rfl⟩
theorem turned2_yes {x : Int} (h : U64 x) (h1 : wS x = 0) : Same 70 #[.int .u64 x, .int .i64 2] (.tuple #[.int .u64 (wpk (wC x) 2), .bool true]) := fun w => by
  have b0 := (wS_b h).1; have b1 := (wS_b h).2; have c0 := (wC_b x).1; have c1 := (wC_b x).2
  have Hp := Lib.hid (show wS x < 3 by omega)
  have Hk := Lib.hid h1
  clear h1 b0 b1
  have H := Lib.hid h
  clear h
  go_enter Try.func70, Try.ntmps70
  go_wp2_with fail
  refine (parts_same H.out _).mono ?_
  rintro e w1 ⟨he, rfl⟩
  rw [parts_is Hp.out, show wS x = 0 from Hk.out] at he
  subst he
  go_wp2_with fail
  refine (rpack_same (n := wC x) (s := 2) (by omega) (by omega) (by omega) (by omega) _).mono ?_
  rintro e w1 ⟨rfl, rfl⟩
  go_wp2
  go_ret2
  exact ⟨rfl, rfl⟩
theorem turned2_no {x : Int} (h : U64 x) (h1 : ¬ wS x = 0) (h3 : wS x < 3) : Same 70 #[.int .u64 x, .int .i64 2] (.tuple #[.int .u64 0, .bool false]) := fun w => by
  have b0 := (wS_b h).1; have b1 := (wS_b h).2; have c0 := (wC_b x).1; have c1 := (wC_b x).2
  have Hp := Lib.hid (show wS x < 3 by omega)
  have n1 : (wS x == 0) = false := beq_eq_false_iff_ne.2 h1
  clear h1
  have H := Lib.hid h
  clear h
  go_enter Try.func70, Try.ntmps70
  go_wp2_with fail
  refine (parts_same H.out _).mono ?_
  rintro e w1 ⟨he, rfl⟩
  rw [parts_is Hp.out] at he
  subst he
  go_wp2
  go_ret2
  exact ⟨rfl, rfl⟩

/-- What a word becomes, by how: claimed 0, rested 1, shut 2. -/
def tB (how : Nat) (x : Int) : Bool := match how with | 0 => wmB x | 1 => wrB x | _ => wsB x
def tW (how : Nat) (x : Int) : Int := match how with | 0 => wm x | 1 => wr x | _ => ws x
def tR (how : Nat) (x : Int) : Value := .tuple #[.int .u64 (tW how x), .bool (tB how x)]
theorem tR0_yes {x : Int} (h1 : wS x < 2) (h2 : wC x < 2305843009213693951) : tR 0 x = .tuple #[.int .u64 (wpk (wC x + 1) 1), .bool true] := by
  have : wmB x = true := decide_eq_true ⟨h1, h2⟩
  simp [tR, tW, tB, wm, this]
theorem tR0_no {x : Int} (h : ¬ (wS x < 2 ∧ wC x < 2305843009213693951)) : tR 0 x = .tuple #[.int .u64 0, .bool false] := by
  have : wmB x = false := decide_eq_false h
  simp [tR, tW, tB, wm, this]
theorem tR1_yes {x : Int} (h : wS x = 1) : tR 1 x = .tuple #[.int .u64 (wpk (wC x) 0), .bool true] := by
  have : wrB x = true := decide_eq_true h
  simp [tR, tW, tB, wr, this]
theorem tR1_no {x : Int} (h : ¬ wS x = 1) : tR 1 x = .tuple #[.int .u64 0, .bool false] := by
  have : wrB x = false := decide_eq_false h
  simp [tR, tW, tB, wr, this]
theorem tR2_yes {x : Int} (h : wS x = 0) : tR 2 x = .tuple #[.int .u64 (wpk (wC x) 2), .bool true] := by
  have : wsB x = true := decide_eq_true h
  simp [tR, tW, tB, ws, this]
theorem tR2_no {x : Int} (h : ¬ wS x = 0) : tR 2 x = .tuple #[.int .u64 0, .bool false] := by
  have : wsB x = false := decide_eq_false h
  simp [tR, tW, tB, ws, this]
theorem wst_ne {x k : Int} (hk : 0 ≤ k) (h : ¬ wS x = k) : ¬ wst x = k := by unfold wst; split <;> omega
theorem more_same {x : Int} (h : U64 x) : Same 37 #[.int .u64 x] (tR 0 x) := by
  have hb := wC_b x
  by_cases h3 : 3 ≤ wS x
  · rw [tR0_no (by omega)]; exact more_no3 h h3
  by_cases h2 : wS x = 2
  · rw [tR0_no (by omega)]; exact more_no2 h h2
  by_cases hc : wC x = 2305843009213693951
  · rw [tR0_no (by omega)]; exact more_noC h (by omega) hc
  · rw [tR0_yes (by omega) (by omega)]; exact more_yes h (by omega) (by omega)
theorem rest_same {x : Int} (h : U64 x) : Same 45 #[.int .u64 x] (tR 1 x) := by
  by_cases h1 : wS x = 1
  · rw [tR1_yes h1]; exact rest_yes h h1
  · rw [tR1_no h1]; exact rest_no h (wst_ne (by omega) h1)
theorem shut_same {x : Int} (h : U64 x) : Same 44 #[.int .u64 x] (tR 2 x) := by
  by_cases h1 : wS x = 0
  · rw [tR2_yes h1]; exact shut_yes h h1
  · rw [tR2_no h1]; exact shut_no h (wst_ne (by omega) h1)
theorem turned0_same {x : Int} (h : U64 x) : Same 70 #[.int .u64 x, .int .i64 0] (tR 0 x) := by
  have hb := wC_b x
  by_cases h3 : 3 ≤ wS x
  · rw [tR0_no (by omega)]; exact turned0_no3 h h3
  by_cases h2 : wS x = 2
  · rw [tR0_no (by omega)]; exact turned0_no2 h h2
  by_cases hc : wC x = 2305843009213693951
  · rw [tR0_no (by omega)]; exact turned0_noC h (by omega) hc
  · rw [tR0_yes (by omega) (by omega)]; exact turned0_yes h (by omega) (by omega)
theorem turned1_same {x : Int} (h : U64 x) : Same 70 #[.int .u64 x, .int .i64 1] (tR 1 x) := by
  by_cases h3 : 3 ≤ wS x
  · rw [tR1_no (by omega)]; exact turned1_no3 h h3
  by_cases h1 : wS x = 1
  · rw [tR1_yes h1]; exact turned1_yes h h1
  · rw [tR1_no h1]; exact turned1_no h h1 (by omega)
theorem turned2_same {x : Int} (h : U64 x) : Same 70 #[.int .u64 x, .int .i64 2] (tR 2 x) := by
  by_cases h3 : 3 ≤ wS x
  · rw [tR2_no (by omega)]; exact turned2_no3 h h3
  by_cases h1 : wS x = 0
  · rw [tR2_yes h1]; exact turned2_yes h h1
  · rw [tR2_no h1]; exact turned2_no h h1 (by omega)
theorem tW_u {how : Nat} {x : Int} (hb : tB how x = true) : U64 (tW how x) := by
  have c := wC_b x
  match how, hb with
  | 0, hb =>
    have hb : wmB x = true := hb
    obtain ⟨h1, h2⟩ := of_decide_eq_true hb
    show U64 (wm x)
    rw [show wm x = wpk (wC x + 1) 1 from if_pos hb]
    exact wpk_u (by omega) (by omega) (by omega) (by omega)
  | 1, hb =>
    have hb : wrB x = true := hb
    show U64 (wr x)
    rw [show wr x = wpk (wC x) 0 from if_pos hb]
    exact wpk_u (by omega) (by omega) (by omega) (by omega)
  | n + 2, hb =>
    have hb : wsB x = true := hb
    show U64 (ws x)
    rw [show ws x = wpk (wC x) 2 from if_pos hb]
    exact wpk_u (by omega) (by omega) (by omega) (by omega)
end Go.Proofs.Ytjipjhmcpjffcad
