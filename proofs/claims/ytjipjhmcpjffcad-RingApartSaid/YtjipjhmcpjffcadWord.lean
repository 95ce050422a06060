/- The functions of package word and of the reference's words: a count and a state in one number. -/
import Derived.Test.YtjipjhmcpjffcadUsesP
import Derived.Laws.BitsAllLaws
set_option linter.unusedSimpArgs false
set_option linter.unusedVariables false
set_option maxRecDepth 20000
namespace Go.Proofs.Ytjipjhmcpjffcad
open Go Go.RowKit Go.Maps

/-- What a word's state and count are. -/
def wS (w : Int) : Int := w / 2305843009213693952
def wC (w : Int) : Int := w % 2305843009213693952
theorem wS_b {w : Int} (h : U64 w) : 0 ≤ wS w ∧ wS w ≤ 7 := by obtain ⟨h0, h1⟩ := h; unfold wS; omega
theorem wC_b (w : Int) : 0 ≤ wC w ∧ wC w ≤ 2305843009213693951 := by unfold wC; omega
def wcnt (w : Int) : Int := if wS w < 3 then wC w else 0
def wst (w : Int) : Int := if wS w < 3 then wS w else -1
def wpk (n s : Int) : Int := s * 2305843009213693952 + n
/-- What a word becomes: claimed, rested, shut; and whether. -/
def wmB (w : Int) : Bool := decide (wS w < 2 ∧ wC w < 2305843009213693951)
def wm (w : Int) : Int := if wmB w = true then wpk (wC w + 1) 1 else 0
def wrB (w : Int) : Bool := decide (wS w = 1)
def wr (w : Int) : Int := if wrB w = true then wpk (wC w) 0 else 0
def wsB (w : Int) : Bool := decide (wS w = 0)
def ws (w : Int) : Int := if wsB w = true then wpk (wC w) 2 else 0
theorem wpk_u {n s : Int} (h0 : 0 ≤ n) (h1 : n ≤ 2305843009213693951) (s0 : 0 ≤ s) (s1 : s ≤ 2) : U64 (wpk n s) := by unfold wpk U64; omega
theorem word_and {w : Int} (h : U64 w) : Go.bits .and .u64 w 2305843009213693951 = wC w := by
  obtain ⟨h0, h1⟩ := h
  rw [u64_and _ _ (by omega) (by omega) (by omega) (by omega)]
  have : (2305843009213693951 : Int).toNat = 2 ^ 61 - 1 := by decide
  rw [this, Nat.and_two_pow_sub_one_eq_mod]
  unfold wC
  omega
theorem word_or {n s : Int} (h0 : 0 ≤ n) (h1 : n ≤ 2305843009213693951) (s0 : 0 ≤ s) (s1 : s ≤ 2) : Go.bits .or .u64 (s * 2305843009213693952) n = wpk n s := by
  rw [u64_or _ _ (by omega) (by omega) (by omega) (by omega), nat_join 61 _ _ (by omega) (by omega)]
  unfold wpk
  omega
/-- A function that leaves the world alone, and tells r. -/
def Same (f : FuncId) (args : Array Value) (r : Value) : Prop := ∀ w, Calls Try.prog f args w fun e w' => e = .returned r ∧ w = w'

set_option maxHeartbeats 1000000
theorem right_same {x : Int} (h : U64 x) : Same 63 #[.int .u64 x] (.bool (decide (wS x < 3))) := fun w => by
  have h0 := h.1; have h1 := h.2
  have e : x / 2305843009213693952 = wS x := rfl
  clear h
  go_enter Try.func63, Try.ntmps63
  go_wp2
  go_ret
  exact ⟨rfl, rfl⟩
theorem count_same {x : Int} (h : U64 x) : Same 35 #[.int .u64 x] (.int .u64 (wcnt x)) := fun w => by
  have ea := word_and h
  have Ea := Lib.hid ea; have H := Lib.hid h
  clear h ea
  by_cases c : wS x < 3
  · rw [show wcnt x = wC x from if_pos c]
    have d : decide (wS x < 3) = true := decide_eq_true c
    have D := Lib.hid d
    clear d c
    go_enter Try.func35, Try.ntmps35
    go_wp2_with fail
    refine (right_same H.out _).mono ?_
    rintro e w1 ⟨he, rfl⟩
    rw [D.out] at he
    subst he
    have ea := Ea.out
    go_wp2
    go_ret
    exact ⟨rfl, rfl⟩
  · rw [show wcnt x = 0 from if_neg c]
    have d : decide (wS x < 3) = false := decide_eq_false c
    have D := Lib.hid d
    clear d c
    go_enter Try.func35, Try.ntmps35
    go_wp2_with fail
    refine (right_same H.out _).mono ?_
    rintro e w1 ⟨he, rfl⟩
    rw [D.out] at he
    subst he
    go_wp2
    go_ret
    exact ⟨rfl, rfl⟩
theorem state_same {x : Int} (h : U64 x) : Same 65 #[.int .u64 x] (.int .i64 (wst x)) := fun w => by
  have h0 := h.1; have h1 := h.2
  have b0 := (wS_b h).1; have b1 := (wS_b h).2
  have H := Lib.hid h
  by_cases c : wS x < 3
  · rw [show wst x = wS x from if_pos c]
    have d : decide (wS x < 3) = true := decide_eq_true c
    have ee : IntKind.i64.wrap (wS x) = wS x := by rw [IntKind.wrap_i64]; omega
    have e : x / 2305843009213693952 = wS x := rfl
    have D := Lib.hid d; have Ee := Lib.hid ee; have E := Lib.hid e
    clear d c h ee e
    go_enter Try.func65, Try.ntmps65
    go_wp2_with fail
    refine (right_same H.out _).mono ?_
    rintro e w1 ⟨he, rfl⟩
    rw [D.out] at he
    subst he
    have ee := Ee.out; have e := E.out
    go_wp2
    go_ret
    exact ⟨rfl, rfl⟩
  · rw [show wst x = -1 from if_neg c]
    have d : decide (wS x < 3) = false := decide_eq_false c
    have D := Lib.hid d
    clear d c h
    go_enter Try.func65, Try.ntmps65
    go_wp2_with fail
    refine (right_same H.out _).mono ?_
    rintro e w1 ⟨he, rfl⟩
    rw [D.out] at he
    subst he
    go_wp2
    go_ret
    exact ⟨rfl, rfl⟩
theorem pack_same {n s : Int} (h0 : 0 ≤ n) (h1 : n ≤ 2305843009213693951) (s0 : 0 ≤ s) (s1 : s ≤ 2) : Same 66 #[.int .u64 n, .int .i64 s] (.tuple #[.int .u64 (wpk n s), .bool true]) := fun w => by
  have eo := word_or h0 h1 s0 s1
  have e1 : IntKind.u64.wrap s = s := by rw [IntKind.wrap_u64]; omega
  have e2 : IntKind.u64.wrap (s * 2305843009213693952) = s * 2305843009213693952 := by rw [IntKind.wrap_u64]; omega
  go_enter Try.func66, Try.ntmps66
  go_wp2
  go_ret2
  exact ⟨rfl, rfl⟩
theorem rpack_same {n s : Int} (h0 : 0 ≤ n) (h1 : n ≤ 2305843009213693951) (s0 : 0 ≤ s) (s1 : s ≤ 2) : Same 68 #[.int .u64 n, .int .i64 s] (.tuple #[.int .u64 (wpk n s), .bool true]) := fun w => by
  have eo : s * 2305843009213693952 + n = wpk n s := rfl
  have e1 : IntKind.u64.wrap s = s := by rw [IntKind.wrap_u64]; omega
  have e2 : IntKind.u64.wrap (s * 2305843009213693952) = s * 2305843009213693952 := by rw [IntKind.wrap_u64]; omega
  have e3 : IntKind.u64.wrap (s * 2305843009213693952 + n) = s * 2305843009213693952 + n := by rw [IntKind.wrap_u64]; omega
  go_enter Try.func68, Try.ntmps68
  go_wp2
  go_ret2
  exact ⟨rfl, rfl⟩
/-- Parts: a word's count and state. -/
def partsR (w : Int) : Value := .tuple #[.int .u64 (wcnt w), .int .i64 (wst w), .bool (decide (wS w < 3))]
theorem parts_same {x : Int} (h : U64 x) : Same 12 #[.int .u64 x] (partsR x) := fun w => by
  have h0 := h.1; have h1 := h.2
  have b0 := (wS_b h).1; have b1 := (wS_b h).2
  have ee : IntKind.i64.wrap (wS x) = wS x := by rw [IntKind.wrap_i64]; omega
  have e : x / 2305843009213693952 = wS x := rfl
  have e' : x.tdiv 2305843009213693952 = wS x := Int.tdiv_eq_ediv_of_nonneg h0
  have ec : x % 2305843009213693952 = wC x := rfl
  have ec' : x.tmod 2305843009213693952 = wC x := Int.tmod_eq_emod_of_nonneg h0
  have eu : IntKind.u64.wrap (wS x) = wS x := by rw [IntKind.wrap_u64]; omega
  clear h
  by_cases c : wS x < 3
  · rw [show partsR x = .tuple #[.int .u64 (wC x), .int .i64 (wS x), .bool true] by simp [partsR, wcnt, wst, c]]
    have c' : wS x ≤ 2 := by omega
    clear c
    go_enter Try.func12, Try.ntmps12
    go_wp2
    go_ret3
    exact ⟨rfl, rfl⟩
  · rw [show partsR x = .tuple #[.int .u64 0, .int .i64 (-1), .bool false] by simp [partsR, wcnt, wst, c]]
    have c' : 2 < wS x := by omega
    clear c
    go_enter Try.func12, Try.ntmps12
    go_wp2
    go_ret3
    exact ⟨rfl, rfl⟩
end Go.Proofs.Ytjipjhmcpjffcad
