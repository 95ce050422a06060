/- The statement WordTurns, without Go and memory: what the printed functions of package word compute is a count below 2^61 and a state of 0 to 2, and by that the law answers true at every number. -/
import Derived.Test.YtdpeopcnnhejhaaPWordTurnsx2
namespace Go.Proofs.Ytdpeopcnnhejhaa.Pure.WordTurns
open Go.RowKit Go.Proofs.Ytdpeopcnnhejhaa.PWordTurns Go.Proofs.YtdpeopcnnhejhaaW.PrintWords Go.Proofs.YtdpeopcnnhejhaaW.PrintLast

theorem u64b {a : Int} (h : (Lit.int .u64 a).wf = true) : 0 ≤ a ∧ a < 18446744073709551616 := by
  simp [Lit.wf, IntKind.signed, IntKind.bits, IntKind.min, IntKind.max] at h
  omega
theorem i64b {a : Int} (h : (Lit.int .i64 a).wf = true) : -9223372036854775808 ≤ a ∧ a < 9223372036854775808 := by
  simp [Lit.wf, IntKind.signed, IntKind.bits, IntKind.min, IntKind.max] at h
  omega
def cnt (a : Int) : Int := if a / 2305843009213693952 < 3 then a % 2305843009213693952 else 0
def st (a : Int) : Int := if a / 2305843009213693952 < 3 then a / 2305843009213693952 else -1
def pk (n s : Int) : Int × Bool := if n ≤ 2305843009213693951 ∧ 0 ≤ s ∧ s ≤ 2 then (s * 2305843009213693952 + n, true) else (0, false)
def mr (a : Int) : Int × Bool := if a / 2305843009213693952 < 2 ∧ a % 2305843009213693952 < 2305843009213693951 then (2305843009213693952 + a % 2305843009213693952 + 1, true) else (0, false)
theorem and_is (a : Int) (h0 : 0 ≤ a) (h1 : a < 18446744073709551616) : Go.bits .and .u64 a 2305843009213693951 = a % 2305843009213693952 := by
  rw [u64_and a _ h0 h1 (by omega) (by omega)]
  have : (2305843009213693951 : Int).toNat = 2 ^ 61 - 1 := by decide
  rw [this, Nat.and_two_pow_sub_one_eq_mod]
  omega
theorem or_is (s n : Int) (h0 : 0 ≤ s) (h1 : s ≤ 2) (h2 : 0 ≤ n) (h3 : n ≤ 2305843009213693951) : Go.bits .or .u64 (s * 2305843009213693952) n = s * 2305843009213693952 + n := by
  rw [u64_or _ _ (by omega) (by omega) (by omega) (by omega), nat_join 61 _ _ (by omega) (by omega)]
  omega
theorem right_is (a : Int) : word_Right.f a = some (decide (a / 2305843009213693952 < 3)) := rfl
theorem count_is (a : Int) (h0 : 0 ≤ a) (h1 : a < 18446744073709551616) : word_Count.f a = some (cnt a) := by
  unfold word_Count.f cnt
  rw [right_is, Option.bind_some, and_is a h0 h1]
  by_cases h : a / 2305843009213693952 < 3 <;> simp [h]
theorem state_is (a : Int) (h0 : 0 ≤ a) (h1 : a < 18446744073709551616) : word_State.f a = some (st a) := by
  unfold word_State.f st
  have e : wrap64 (a / 2305843009213693952) = a / 2305843009213693952 := by unfold wrap64; omega
  rw [right_is, Option.bind_some, e]
  by_cases h : a / 2305843009213693952 < 3 <;> simp [h]
theorem pack_is (n s : Int) (h0 : 0 ≤ n) : word_Pack.f n s = some (pk n s) := by
  unfold word_Pack.f pk
  by_cases a : n > 2305843009213693951
  · rw [if_pos a, if_neg (by omega)]
  rw [if_neg a]
  by_cases b : s < 0
  · rw [if_pos b, if_neg (by omega)]
  rw [if_neg b]
  by_cases c : s ≥ 3
  · rw [if_pos c, if_neg (by omega)]
  rw [if_neg c, if_pos (by omega)]
  have e1 : IntKind.u64.wrap s = s := by rw [IntKind.wrap_u64]; omega
  have e2 : IntKind.u64.wrap (s * 2305843009213693952) = s * 2305843009213693952 := by rw [IntKind.wrap_u64]; omega
  rw [e1, e2, or_is s n (by omega) (by omega) h0 (by omega)]
theorem more_j0 (k : Nat) (a : Int) (b : Bool) (h0 : 0 ≤ a) (h1 : a < 18446744073709551616) (hb : b = false → a / 2305843009213693952 < 3 ∧ cnt a < 2305843009213693951) :
    word_More.j0 (k + 1) a b = some (if b then (0, false) else (2305843009213693952 + cnt a + 1, true)) := by
  simp only [word_More.j0]
  cases b with
  | true => rfl
  | false =>
    obtain ⟨x, y⟩ := hb rfl
    have c0 : 0 ≤ cnt a := by unfold cnt; split <;> omega
    have e : IntKind.u64.wrap (cnt a + 1) = cnt a + 1 := by rw [IntKind.wrap_u64]; omega
    rw [if_neg (by simp), count_is a h0 h1, Option.bind_some, e, pack_is _ _ (by omega), Option.bind_some]
    unfold pk
    rw [if_pos (by omega)]
    simp
    omega
theorem more_is (k : Nat) (a : Int) (h0 : 0 ≤ a) (h1 : a < 18446744073709551616) : word_More.f (k + 1) a = some (mr a) := by
  unfold word_More.f mr
  rw [right_is, Option.bind_some]
  by_cases h : a / 2305843009213693952 < 3
  · rw [if_pos (by simpa using h), state_is a h0 h1, Option.bind_some]
    have hs : st a = a / 2305843009213693952 := by unfold st; rw [if_pos h]
    have hc : cnt a = a % 2305843009213693952 := by unfold cnt; rw [if_pos h]
    by_cases h2 : st a = 2
    · rw [if_pos h2, more_j0 _ _ _ h0 h1 (by simp), if_pos rfl, if_neg (by omega)]
    · rw [if_neg h2, count_is a h0 h1, Option.bind_some]
      by_cases h3 : cnt a = 2305843009213693951
      · rw [beq_iff_eq.2 h3, more_j0 _ _ _ h0 h1 (by simp), if_pos rfl, if_neg (by omega)]
      · rw [beq_eq_false_iff_ne.2 h3, more_j0 _ _ _ h0 h1 (fun _ => ⟨h, by omega⟩), if_neg (by simp), if_pos (by omega), hc]
  · rw [if_neg (by simpa using h), more_j0 _ _ _ h0 h1 (by simp), if_pos rfl, if_neg (by omega)]
theorem awake_is (k : Nat) : weighbridgelaw02_awake.f (k + 1) = some true := by
  unfold weighbridgelaw02_awake.f
  rw [pack_is 5 1 (by omega), Option.bind_some, more_is k 0 (by omega) (by omega), Option.bind_some]
  have e : pk 5 1 = (2305843009213693957, true) := by decide
  have e' : mr 0 = (2305843009213693953, true) := by decide
  rw [e, e']
  simp only [if_true]
  rw [count_is _ (by omega) (by omega), state_is _ (by omega) (by omega)]
  have e2 : cnt 2305843009213693957 = 5 := by decide
  have e3 : st 2305843009213693957 = 1 := by decide
  rw [e2, e3, right_is]
  rfl
theorem refpack_is (n s : Int) (h0 : 0 ≤ n) : weighbridgeref01_Pack.f n s = some (pk n s) := by
  unfold weighbridgeref01_Pack.f pk
  by_cases a : n > 2305843009213693951
  · rw [if_pos a, if_neg (by omega)]
  rw [if_neg a]
  by_cases b : s < 0
  · rw [if_pos b, if_neg (by omega)]
  rw [if_neg b]
  by_cases c : s > 2
  · rw [if_pos c, if_neg (by omega)]
  rw [if_neg c, if_pos (by omega)]
  have e1 : IntKind.u64.wrap s = s := by rw [IntKind.wrap_u64]; omega
  have e2 : IntKind.u64.wrap (s * 2305843009213693952) = s * 2305843009213693952 := by rw [IntKind.wrap_u64]; omega
  have e3 : IntKind.u64.wrap (s * 2305843009213693952 + n) = s * 2305843009213693952 + n := by rw [IntKind.wrap_u64]; omega
  rw [e1, e2, e3]
def prt (a : Int) : Int × Int × Bool := if a / 2305843009213693952 < 3 then (a % 2305843009213693952, a / 2305843009213693952, true) else (0, -1, false)
theorem parts_is (a : Int) (h0 : 0 ≤ a) (h1 : a < 18446744073709551616) : weighbridgeref01_Parts.f a = some (prt a) := by
  unfold weighbridgeref01_Parts.f prt
  have e0 : Int.tdiv a 2305843009213693952 = a / 2305843009213693952 := Int.tdiv_eq_ediv_of_nonneg h0
  have e1 : Int.tmod a 2305843009213693952 = a % 2305843009213693952 := Int.tmod_eq_emod_of_nonneg h0
  have e2 : wrap64 (IntKind.u64.wrap (a / 2305843009213693952)) = a / 2305843009213693952 := by rw [IntKind.wrap_u64]; unfold wrap64; omega
  rw [e0, e1, e2]
  by_cases h : a / 2305843009213693952 < 3
  · rw [if_neg (by omega), if_pos h]
  · rw [if_pos (by omega), if_neg h]
theorem near_is (a s : Int) (h0 : 0 ≤ a) : ∃ t, 0 ≤ t ∧ t ≤ 2 ∧ weighbridgelaw02_near.f a s = some (t * 2305843009213693952 + a % 2305843009213693952) := by
  have e1 : Int.tmod a 2305843009213693952 = a % 2305843009213693952 := Int.tmod_eq_emod_of_nonneg h0
  have hw : 0 ≤ IntKind.u64.wrap s := by rw [IntKind.wrap_u64]; omega
  have e2 : Int.tmod (IntKind.u64.wrap s) 3 = IntKind.u64.wrap s % 3 := Int.tmod_eq_emod_of_nonneg hw
  have e3 : wrap64 (IntKind.u64.wrap s % 3) = IntKind.u64.wrap s % 3 := by unfold wrap64; omega
  refine ⟨IntKind.u64.wrap s % 3, by omega, by omega, ?_⟩
  unfold weighbridgelaw02_near.f
  have hp : pk (a % 2305843009213693952) (IntKind.u64.wrap s % 3) = (IntKind.u64.wrap s % 3 * 2305843009213693952 + a % 2305843009213693952, true) := by unfold pk; rw [if_pos (by omega)]
  rw [e1, e2, e3, refpack_is _ _ (by omega), Option.bind_some, hp]
  rfl
def rst (a : Int) : Int × Bool := if a / 2305843009213693952 = 1 then (a % 2305843009213693952, true) else (0, false)
def sht (a : Int) : Int × Bool := if a / 2305843009213693952 = 0 then (2 * 2305843009213693952 + a % 2305843009213693952, true) else (0, false)
theorem rest_is (a : Int) (h0 : 0 ≤ a) (h1 : a < 18446744073709551616) : word_Rest.f a = some (rst a) := by
  unfold word_Rest.f rst
  rw [state_is a h0 h1, Option.bind_some]
  by_cases h : a / 2305843009213693952 = 1
  · have hs : st a = 1 := by unfold st; rw [if_pos (by omega)]; exact h
    have hc : cnt a = a % 2305843009213693952 := by unfold cnt; rw [if_pos (by omega)]
    rw [if_pos hs, if_pos h, count_is a h0 h1, Option.bind_some, pack_is _ _ (by rw [hc]; omega), Option.bind_some, hc]
    unfold pk
    rw [if_pos (by omega)]
    simp
  · have hs : st a ≠ 1 := by unfold st; split <;> omega
    rw [if_neg hs, if_neg h]
theorem shut_is (a : Int) (h0 : 0 ≤ a) (h1 : a < 18446744073709551616) : word_Shut.f a = some (sht a) := by
  unfold word_Shut.f sht
  rw [state_is a h0 h1, Option.bind_some]
  by_cases h : a / 2305843009213693952 = 0
  · have hs : st a = 0 := by unfold st; rw [if_pos (by omega)]; exact h
    have hc : cnt a = a % 2305843009213693952 := by unfold cnt; rw [if_pos (by omega)]
    rw [if_pos hs, if_pos h, count_is a h0 h1, Option.bind_some, pack_is _ _ (by rw [hc]; omega), Option.bind_some, hc]
    unfold pk
    rw [if_pos (by omega)]
  · have hs : st a ≠ 0 := by unfold st; split <;> omega
    rw [if_neg hs, if_neg h]
theorem turned_is (k : Nat) (a : Int) (h0 : 0 ≤ a) (h1 : a < 18446744073709551616) :
    weighbridgeref01_Turned.f (k + 2) a 0 = some (mr a) ∧ weighbridgeref01_Turned.f (k + 2) a 1 = some (rst a) ∧ weighbridgeref01_Turned.f (k + 2) a 2 = some (sht a) := by
  unfold weighbridgeref01_Turned.f
  rw [parts_is a h0 h1]
  simp only [Option.bind_some]
  by_cases h : a / 2305843009213693952 < 3
  · have hp : prt a = (a % 2305843009213693952, a / 2305843009213693952, true) := by unfold prt; rw [if_pos h]
    rw [hp]
    simp only [if_true, if_false, show ((1 : Int) = 0) = False from by simp, show ((2 : Int) = 0) = False from by simp]
    have hn0 : 0 ≤ a % 2305843009213693952 := by omega
    have hn1 : a % 2305843009213693952 < 2305843009213693952 := by omega
    refine ⟨?_, ?_, ?_⟩
    · by_cases h2 : a / 2305843009213693952 = 2
      · rw [if_pos h2]
        have em : mr a = (0, false) := by unfold mr; rw [if_neg (by omega)]
        simp only [weighbridgeref01_Turned.j0, weighbridgeref01_Turned.j1, em]
        simp
      · rw [if_neg h2]
        by_cases h3 : a % 2305843009213693952 < 2305843009213693951
        · simp only [weighbridgeref01_Turned.j0, h3, decide_true, if_true]
          have e : IntKind.u64.wrap (a % 2305843009213693952 + 1) = a % 2305843009213693952 + 1 := by rw [IntKind.wrap_u64]; omega
          rw [e, refpack_is _ _ (by omega), Option.bind_some]
          have em : mr a = (2305843009213693952 + a % 2305843009213693952 + 1, true) := by unfold mr; rw [if_pos (by omega)]
          have ep : pk (a % 2305843009213693952 + 1) 1 = (1 * 2305843009213693952 + (a % 2305843009213693952 + 1), true) := by unfold pk; rw [if_pos (by omega)]
          rw [em, ep]
          simp
          omega
        · have em : mr a = (0, false) := by unfold mr; rw [if_neg (by omega)]
          simp only [weighbridgeref01_Turned.j0, weighbridgeref01_Turned.j1, h3, decide_false, em]
          simp
    · simp only [weighbridgeref01_Turned.j0, weighbridgeref01_Turned.j1]
      by_cases h3 : a / 2305843009213693952 = 1
      · have em : rst a = (a % 2305843009213693952, true) := by unfold rst; rw [if_pos h3]
        have ep : pk (a % 2305843009213693952) 0 = (0 * 2305843009213693952 + a % 2305843009213693952, true) := by unfold pk; rw [if_pos (by omega)]
        rw [beq_iff_eq.2 h3, refpack_is (a % 2305843009213693952) 0 (by omega), Option.bind_some, em, ep]
        simp
      · have em : rst a = (0, false) := by unfold rst; rw [if_neg h3]
        rw [beq_eq_false_iff_ne.2 h3, em]
        simp
    · simp only [weighbridgeref01_Turned.j0, weighbridgeref01_Turned.j1]
      by_cases h3 : a / 2305843009213693952 = 0
      · have em : sht a = (2 * 2305843009213693952 + a % 2305843009213693952, true) := by unfold sht; rw [if_pos h3]
        have ep : pk (a % 2305843009213693952) 2 = (2 * 2305843009213693952 + a % 2305843009213693952, true) := by unfold pk; rw [if_pos (by omega)]
        rw [h3, refpack_is (a % 2305843009213693952) 2 (by omega), em, ep]
        simp
      · have em : sht a = (0, false) := by unfold sht; rw [if_neg h3]
        rw [em]
        simp [h3]
  · have hp : prt a = (0, -1, false) := by unfold prt; rw [if_neg h]
    rw [hp]
    have e1 : mr a = (0, false) := by unfold mr; rw [if_neg (by omega)]
    have e2 : rst a = (0, false) := by unfold rst; rw [if_neg (by omega)]
    have e3 : sht a = (0, false) := by unfold sht; rw [if_neg (by omega)]
    rw [e1, e2, e3]
    simp
theorem turns_j0 (k : Nat) (a : Int) (h0 : 0 ≤ a) (h1 : a < 18446744073709551616) : weighbridgelaw02_WordTurns.j0 (k + 3) a = some true := by
  obtain ⟨t0, t1, t2⟩ := turned_is k a h0 h1
  simp only [weighbridgelaw02_WordTurns.j0]
  rw [more_is _ a h0 h1, Option.bind_some, rest_is a h0 h1, Option.bind_some, shut_is a h0 h1, Option.bind_some, t0, Option.bind_some, t1, Option.bind_some, t2, Option.bind_some, awake_is, Option.bind_some]
  simp

end Go.Proofs.Ytdpeopcnnhejhaa.Pure.WordTurns
namespace Go.Proofs.Ytdpeopcnnhejhaa.Pure
open Go.RowKit Go.Proofs.Ytdpeopcnnhejhaa.PWordTurns Go.Proofs.YtdpeopcnnhejhaaW.PrintWords Go.Proofs.YtdpeopcnnhejhaaW.PrintLast Go.Proofs.Ytdpeopcnnhejhaa.Pure.WordTurns

theorem WordTurns : weighbridgelaw02_WordTurns.Pure := by
  intro n s raw hn hs
  obtain ⟨h0, h1⟩ := u64b hn
  obtain ⟨t, t0, t1, ht⟩ := near_is n s h0
  refine ⟨3, ?_⟩
  unfold weighbridgelaw02_WordTurns.f
  rw [ht, Option.bind_some]
  cases raw with
  | true => rw [if_pos rfl]; exact turns_j0 0 n h0 h1
  | false => rw [if_neg (by simp)]; exact turns_j0 0 _ (by omega) (by omega)

end Go.Proofs.Ytdpeopcnnhejhaa.Pure
