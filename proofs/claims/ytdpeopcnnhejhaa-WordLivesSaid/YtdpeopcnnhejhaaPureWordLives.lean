/- The statement WordLives, without Go and memory: what the printed functions of package word compute is a count below 2^61 and a state of 0 to 2, and by that the law answers true at every number. -/
import Derived.Test.YtdpeopcnnhejhaaPWordLivesx2
namespace Go.Proofs.Ytdpeopcnnhejhaa.Pure.WordLives
open Go.RowKit Go.Proofs.Ytdpeopcnnhejhaa.PWordLives Go.Proofs.YtdpeopcnnhejhaaW.PrintWords Go.Proofs.YtdpeopcnnhejhaaW.PrintLast

theorem u64b {a : Int} (h : (Lit.int .u64 a).wf = true) : 0 ≤ a ∧ a < 18446744073709551616 := by
  simp [Lit.wf, IntKind.signed, IntKind.bits, IntKind.min, IntKind.max] at h
  omega
theorem i64b {a : Int} (h : (Lit.int .i64 a).wf = true) : -9223372036854775808 ≤ a ∧ a < 9223372036854775808 := by
  simp [Lit.wf, IntKind.signed, IntKind.bits, IntKind.min, IntKind.max] at h
  omega
def cnt (a : Int) : Int := if a / 2305843009213693952 < 3 then a % 2305843009213693952 else 0
def st (a : Int) : Int := if a / 2305843009213693952 < 3 then a / 2305843009213693952 else -1
def pk (n s : Int) : Int × Bool := if n ≤ 2305843009213693951 ∧ 0 ≤ s ∧ s ≤ 2 then (s * 2305843009213693952 + n, true) else (0, false)
def mr (a : Int) : Int × Bool := if a / 2305843009213693952 < 2 ∧ a % 2305843009213693952 < 2305843009213693951 then (2305843009213693952 + a % 2305843009213693952 + 1, true) else (0, false)
theorem and_is (a : Int) (h0 : 0 ≤ a) (h1 : a < 18446744073709551616) : Go.bits .and .u64 a 2305843009213693951 = a % 2305843009213693952 := by
  rw [u64_and a _ h0 h1 (by omega) (by omega)]
  have : (2305843009213693951 : Int).toNat = 2 ^ 61 - 1 := by decide
  rw [this, Nat.and_two_pow_sub_one_eq_mod]
  omega
theorem or_is (s n : Int) (h0 : 0 ≤ s) (h1 : s ≤ 2) (h2 : 0 ≤ n) (h3 : n ≤ 2305843009213693951) : Go.bits .or .u64 (s * 2305843009213693952) n = s * 2305843009213693952 + n := by
  rw [u64_or _ _ (by omega) (by omega) (by omega) (by omega), nat_join 61 _ _ (by omega) (by omega)]
  omega
theorem right_is (a : Int) : word_Right.f a = some (decide (a / 2305843009213693952 < 3)) := rfl
theorem count_is (a : Int) (h0 : 0 ≤ a) (h1 : a < 18446744073709551616) : word_Count.f a = some (cnt a) := by
  unfold word_Count.f cnt
  rw [right_is, Option.bind_some, and_is a h0 h1]
  by_cases h : a / 2305843009213693952 < 3 <;> simp [h]
theorem state_is (a : Int) (h0 : 0 ≤ a) (h1 : a < 18446744073709551616) : word_State.f a = some (st a) := by
  unfold word_State.f st
  have e : wrap64 (a / 2305843009213693952) = a / 2305843009213693952 := by unfold wrap64; omega
  rw [right_is, Option.bind_some, e]
  by_cases h : a / 2305843009213693952 < 3 <;> simp [h]
theorem pack_is (n s : Int) (h0 : 0 ≤ n) : word_Pack.f n s = some (pk n s) := by
  unfold word_Pack.f pk
  by_cases a : n > 2305843009213693951
  · rw [if_pos a, if_neg (by omega)]
  rw [if_neg a]
  by_cases b : s < 0
  · rw [if_pos b, if_neg (by omega)]
  rw [if_neg b]
  by_cases c : s ≥ 3
  · rw [if_pos c, if_neg (by omega)]
  rw [if_neg c, if_pos (by omega)]
  have e1 : IntKind.u64.wrap s = s := by rw [IntKind.wrap_u64]; omega
  have e2 : IntKind.u64.wrap (s * 2305843009213693952) = s * 2305843009213693952 := by rw [IntKind.wrap_u64]; omega
  rw [e1, e2, or_is s n (by omega) (by omega) h0 (by omega)]
theorem more_j0 (k : Nat) (a : Int) (b : Bool) (h0 : 0 ≤ a) (h1 : a < 18446744073709551616) (hb : b = false → a / 2305843009213693952 < 3 ∧ cnt a < 2305843009213693951) :
    word_More.j0 (k + 1) a b = some (if b then (0, false) else (2305843009213693952 + cnt a + 1, true)) := by
  simp only [word_More.j0]
  cases b with
  | true => rfl
  | false =>
    obtain ⟨x, y⟩ := hb rfl
    have c0 : 0 ≤ cnt a := by unfold cnt; split <;> omega
    have e : IntKind.u64.wrap (cnt a + 1) = cnt a + 1 := by rw [IntKind.wrap_u64]; omega
    rw [if_neg (by simp), count_is a h0 h1, Option.bind_some, e, pack_is _ _ (by omega), Option.bind_some]
    unfold pk
    rw [if_pos (by omega)]
    simp
    omega
theorem more_is (k : Nat) (a : Int) (h0 : 0 ≤ a) (h1 : a < 18446744073709551616) : word_More.f (k + 1) a = some (mr a) := by
  unfold word_More.f mr
  rw [right_is, Option.bind_some]
  by_cases h : a / 2305843009213693952 < 3
  · rw [if_pos (by simpa using h), state_is a h0 h1, Option.bind_some]
    have hs : st a = a / 2305843009213693952 := by unfold st; rw [if_pos h]
    have hc : cnt a = a % 2305843009213693952 := by unfold cnt; rw [if_pos h]
    by_cases h2 : st a = 2
    · rw [if_pos h2, more_j0 _ _ _ h0 h1 (by simp), if_pos rfl, if_neg (by omega)]
    · rw [if_neg h2, count_is a h0 h1, Option.bind_some]
      by_cases h3 : cnt a = 2305843009213693951
      · rw [beq_iff_eq.2 h3, more_j0 _ _ _ h0 h1 (by simp), if_pos rfl, if_neg (by omega)]
      · rw [beq_eq_false_iff_ne.2 h3, more_j0 _ _ _ h0 h1 (fun _ => ⟨h, by omega⟩), if_neg (by simp), if_pos (by omega), hc]
  · rw [if_neg (by simpa using h), more_j0 _ _ _ h0 h1 (by simp), if_pos rfl, if_neg (by omega)]
theorem awake_is (k : Nat) : weighbridgelaw02_awake.f (k + 1) = some true := by
  unfold weighbridgelaw02_awake.f
  rw [pack_is 5 1 (by omega), Option.bind_some, more_is k 0 (by omega) (by omega), Option.bind_some]
  have e : pk 5 1 = (2305843009213693957, true) := by decide
  have e' : mr 0 = (2305843009213693953, true) := by decide
  rw [e, e']
  simp only [if_true]
  rw [count_is _ (by omega) (by omega), state_is _ (by omega) (by omega)]
  have e2 : cnt 2305843009213693957 = 5 := by decide
  have e3 : st 2305843009213693957 = 1 := by decide
  rw [e2, e3, right_is]
  rfl
theorem refpack_is (n s : Int) (h0 : 0 ≤ n) : weighbridgeref01_Pack.f n s = some (pk n s) := by
  unfold weighbridgeref01_Pack.f pk
  by_cases a : n > 2305843009213693951
  · rw [if_pos a, if_neg (by omega)]
  rw [if_neg a]
  by_cases b : s < 0
  · rw [if_pos b, if_neg (by omega)]
  rw [if_neg b]
  by_cases c : s > 2
  · rw [if_pos c, if_neg (by omega)]
  rw [if_neg c, if_pos (by omega)]
  have e1 : IntKind.u64.wrap s = s := by rw [IntKind.wrap_u64]; omega
  have e2 : IntKind.u64.wrap (s * 2305843009213693952) = s * 2305843009213693952 := by rw [IntKind.wrap_u64]; omega
  have e3 : IntKind.u64.wrap (s * 2305843009213693952 + n) = s * 2305843009213693952 + n := by rw [IntKind.wrap_u64]; omega
  rw [e1, e2, e3]
theorem near_is (a s : Int) (h0 : 0 ≤ a) : ∃ t, 0 ≤ t ∧ t ≤ 2 ∧ weighbridgelaw02_near.f a s = some (t * 2305843009213693952 + a % 2305843009213693952) := by
  have e1 : Int.tmod a 2305843009213693952 = a % 2305843009213693952 := Int.tmod_eq_emod_of_nonneg h0
  have hw : 0 ≤ IntKind.u64.wrap s := by rw [IntKind.wrap_u64]; omega
  have e2 : Int.tmod (IntKind.u64.wrap s) 3 = IntKind.u64.wrap s % 3 := Int.tmod_eq_emod_of_nonneg hw
  have e3 : wrap64 (IntKind.u64.wrap s % 3) = IntKind.u64.wrap s % 3 := by unfold wrap64; omega
  refine ⟨IntKind.u64.wrap s % 3, by omega, by omega, ?_⟩
  unfold weighbridgelaw02_near.f
  have hp : pk (a % 2305843009213693952) (IntKind.u64.wrap s % 3) = (IntKind.u64.wrap s % 3 * 2305843009213693952 + a % 2305843009213693952, true) := by unfold pk; rw [if_pos (by omega)]
  rw [e1, e2, e3, refpack_is _ _ (by omega), Option.bind_some, hp]
  rfl
def rst (a : Int) : Int × Bool := if a / 2305843009213693952 = 1 then (a % 2305843009213693952, true) else (0, false)
def sht (a : Int) : Int × Bool := if a / 2305843009213693952 = 0 then (2 * 2305843009213693952 + a % 2305843009213693952, true) else (0, false)
theorem rest_is (a : Int) (h0 : 0 ≤ a) (h1 : a < 18446744073709551616) : word_Rest.f a = some (rst a) := by
  unfold word_Rest.f rst
  rw [state_is a h0 h1, Option.bind_some]
  by_cases h : a / 2305843009213693952 = 1
  · have hs : st a = 1 := by unfold st; rw [if_pos (by omega)]; exact h
    have hc : cnt a = a % 2305843009213693952 := by unfold cnt; rw [if_pos (by omega)]
    rw [if_pos hs, if_pos h, count_is a h0 h1, Option.bind_some, pack_is _ _ (by rw [hc]; omega), Option.bind_some, hc]
    unfold pk
    rw [if_pos (by omega)]
    simp
  · have hs : st a ≠ 1 := by unfold st; split <;> omega
    rw [if_neg hs, if_neg h]
theorem shut_is (a : Int) (h0 : 0 ≤ a) (h1 : a < 18446744073709551616) : word_Shut.f a = some (sht a) := by
  unfold word_Shut.f sht
  rw [state_is a h0 h1, Option.bind_some]
  by_cases h : a / 2305843009213693952 = 0
  · have hs : st a = 0 := by unfold st; rw [if_pos (by omega)]; exact h
    have hc : cnt a = a % 2305843009213693952 := by unfold cnt; rw [if_pos (by omega)]
    rw [if_pos hs, if_pos h, count_is a h0 h1, Option.bind_some, pack_is _ _ (by rw [hc]; omega), Option.bind_some, hc]
    unfold pk
    rw [if_pos (by omega)]
  · have hs : st a ≠ 0 := by unfold st; split <;> omega
    rw [if_neg hs, if_neg h]
theorem mr_fits (a : Int) (hr : a / 2305843009213693952 < 3) (h : (mr a).2 = true) : 0 ≤ (mr a).1 ∧ (mr a).1 < 18446744073709551616 ∧ (mr a).1 / 2305843009213693952 < 3 ∧ st a ≠ 2 ∧ cnt a ≤ cnt (mr a).1 := by
  unfold mr at h ⊢
  split at h
  · rename_i c
    rw [if_pos c]
    have e : (2305843009213693952 + a % 2305843009213693952 + 1) / 2305843009213693952 < 3 := by omega
    unfold st cnt
    rw [if_pos hr, if_pos hr, if_pos e]
    simp only []
    omega
  · cases h
theorem rst_fits (a : Int) (hr : a / 2305843009213693952 < 3) (h : (rst a).2 = true) : 0 ≤ (rst a).1 ∧ (rst a).1 < 18446744073709551616 ∧ (rst a).1 / 2305843009213693952 < 3 ∧ st a ≠ 2 ∧ cnt a ≤ cnt (rst a).1 := by
  unfold rst at h ⊢
  split at h
  · rename_i c
    rw [if_pos c]
    have e : (a % 2305843009213693952) / 2305843009213693952 < 3 := by omega
    unfold st cnt
    rw [if_pos hr, if_pos hr, if_pos e]
    simp only []
    omega
  · cases h
theorem sht_fits (a : Int) (hr : a / 2305843009213693952 < 3) (h : (sht a).2 = true) : 0 ≤ (sht a).1 ∧ (sht a).1 < 18446744073709551616 ∧ (sht a).1 / 2305843009213693952 < 3 ∧ st a ≠ 2 ∧ cnt a ≤ cnt (sht a).1 := by
  unfold sht at h ⊢
  split at h
  · rename_i c
    rw [if_pos c]
    have e : (2 * 2305843009213693952 + a % 2305843009213693952) / 2305843009213693952 < 3 := by omega
    unfold st cnt
    rw [if_pos hr, if_pos hr, if_pos e]
    simp only []
    omega
  · cases h
/-- What a step hands on is a word that is right, of no smaller count, if the state was not shut; so the law does not answer false there. -/
theorem lives_j2 (k : Nat) (l : List Int) (a i x : Int) (ok : Bool) (h : ok = true → 0 ≤ x ∧ x < 18446744073709551616 ∧ x / 2305843009213693952 < 3 ∧ st a ≠ 2 ∧ cnt a ≤ cnt x) :
    weighbridgelaw02_WordLives.j2 (k + 2) l a i (cnt a) (st a) x ok = weighbridgelaw02_WordLives.l0 k l (if ok then x else a) (wrap64 (i + 1)) := by
  cases ok with
  | true =>
    obtain ⟨x0, x1, x2, x3, x4⟩ := h rfl
    unfold weighbridgelaw02_WordLives.j2
    rw [if_pos rfl, if_neg x3, count_is x x0 x1, Option.bind_some, if_neg (by omega), right_is, Option.bind_some, decide_eq_true x2]
    unfold weighbridgelaw02_WordLives.j3
    simp
  | false =>
    unfold weighbridgelaw02_WordLives.j2
    rw [if_neg (by simp)]
    unfold weighbridgelaw02_WordLives.j3
    simp
theorem lives_l0 (d : Nat) : ∀ (k : Nat) (l : List Int) (a : Int) (i : Nat), i + d = 100 → 4 * d + 4 ≤ k → l.length * 8 ≤ 140737488351232 → 0 ≤ a → a < 18446744073709551616 → a / 2305843009213693952 < 3 → weighbridgelaw02_WordLives.l0 k l a (i : Int) = some true := by
  induction d with
  | zero =>
    intro k l a i hi hk hl h0 h1 hr
    obtain ⟨k, rfl⟩ : ∃ m, k = m + 3 := ⟨k - 3, by omega⟩
    unfold weighbridgelaw02_WordLives.l0
    rw [show decide ((i : Int) < 100) = false from by simp; omega]
    have : weighbridgelaw02_WordLives.j1 (k + 2) l a (i : Int) false = some true := by
      unfold weighbridgelaw02_WordLives.j1
      rw [if_neg (by simp), awake_is, Option.bind_some]
    simp [this]
  | succ d ih =>
    intro k l a i hi hk hl h0 h1 hr
    obtain ⟨k, rfl⟩ : ∃ m, k = m + 5 := ⟨k - 5, by omega⟩
    have hstop : weighbridgelaw02_WordLives.j1 (k + 4) l a (i : Int) false = some true := by
      unfold weighbridgelaw02_WordLives.j1
      rw [if_neg (by simp), awake_is, Option.bind_some]
    unfold weighbridgelaw02_WordLives.l0
    by_cases hlt : (i : Int) < (l.length : Int)
    · rw [if_pos hlt, show decide ((i : Int) < 100) = true from by simp; omega]
      unfold weighbridgelaw02_WordLives.j1
      have e : wrap64 ((i : Int) + 1) = ((i + 1 : Nat) : Int) := by unfold wrap64; omega
      have next : ∀ (x : Int) (ok : Bool), (ok = true → 0 ≤ x ∧ x < 18446744073709551616 ∧ x / 2305843009213693952 < 3 ∧ st a ≠ 2 ∧ cnt a ≤ cnt x) → weighbridgelaw02_WordLives.j2 (k + 3) l a (i : Int) (cnt a) (st a) x ok = some true := by
        intro x ok hx
        rw [lives_j2 (k + 1) l a i x ok hx, e]
        refine ih _ _ _ _ (by omega) (by omega) hl ?_ ?_ ?_
        · cases ok with
          | true => exact (hx rfl).1
          | false => exact h0
        · cases ok with
          | true => exact (hx rfl).2.1
          | false => exact h1
        · cases ok with
          | true => exact (hx rfl).2.2.1
          | false => exact hr
      rw [if_pos rfl, count_is a h0 h1, Option.bind_some, state_is a h0 h1, Option.bind_some, more_is _ a h0 h1, Option.bind_some, if_pos (by omega), if_pos hlt]
      split
      · rw [rest_is a h0 h1, Option.bind_some]
        exact next _ _ (rst_fits a hr)
      · split
        · rw [shut_is a h0 h1, Option.bind_some]
          exact next _ _ (sht_fits a hr)
        · exact next _ _ (mr_fits a hr)
    · rw [if_neg hlt, hstop]

end Go.Proofs.Ytdpeopcnnhejhaa.Pure.WordLives
namespace Go.Proofs.Ytdpeopcnnhejhaa.Pure
open Go.RowKit Go.Proofs.Ytdpeopcnnhejhaa.PWordLives Go.Proofs.YtdpeopcnnhejhaaW.PrintWords Go.Proofs.YtdpeopcnnhejhaaW.PrintLast Go.Proofs.Ytdpeopcnnhejhaa.Pure.WordLives

theorem WordLives : weighbridgelaw02_WordLives.Pure := by
  intro n l hn _ hl _
  obtain ⟨h0, h1⟩ := u64b hn
  obtain ⟨t, t0, t1, ht⟩ := near_is n 0 h0
  refine ⟨500, ?_⟩
  unfold weighbridgelaw02_WordLives.f
  rw [ht, Option.bind_some]
  exact lives_l0 100 500 l _ 0 (by omega) (by omega) hl (by omega) (by omega) (by omega)

end Go.Proofs.Ytdpeopcnnhejhaa.Pure
