/- InboxCalm: of any number, whether nobody is in the section; halves that are alike, and such as differ in any one bit. -/
import Derived.Test.YtjipjhmcpjffcaaInbT
import Derived.Laws.BitsAllLaws
set_option linter.unusedSimpArgs false
set_option linter.unusedVariables false
namespace Go.Proofs.Ytjipjhmcpjffcaa
open Go Go.RowKit Go.Maps

theorem nat_turned {a k : Nat} (ha : a < 4294967296) (hk : k < 64) : ((a * 4294967296 + a) ^^^ 2 ^ k) / 2 ^ 32 ≠ ((a * 4294967296 + a) ^^^ 2 ^ k) % 2 ^ 32 := by
  intro h
  have hA1 : (a * 4294967296 + a) / 2 ^ 32 = a := by omega
  have hA2 : (a * 4294967296 + a) % 2 ^ 32 = a := by omega
  have hi : ∀ j, ((a * 4294967296 + a) ^^^ 2 ^ k).testBit (j + 32) = (a.testBit j ^^ decide (k = j + 32)) := fun j => by
    rw [Nat.testBit_xor, Nat.testBit_two_pow, ← Nat.testBit_div_two_pow, hA1]
  have lo : ∀ j, j < 32 → ((a * 4294967296 + a) ^^^ 2 ^ k).testBit j = (a.testBit j ^^ decide (k = j)) := fun j hj => by
    rw [Nat.testBit_xor, Nat.testBit_two_pow]
    have : (a * 4294967296 + a).testBit j = a.testBit j := by
      conv => rhs; rw [← hA2]
      rw [Nat.testBit_mod_two_pow]
      simp [hj]
    rw [this]
  have both : ∀ j, j < 32 → (a.testBit j ^^ decide (k = j + 32)) = (a.testBit j ^^ decide (k = j)) := fun j hj => by
    rw [← hi, ← lo j hj]
    have := congrArg (fun n => n.testBit j) h
    simp only [Nat.testBit_div_two_pow, Nat.testBit_mod_two_pow, hj, decide_true, Bool.true_and] at this
    exact this
  by_cases c : k < 32
  · have := both k c
    have e1 : decide (k = k + 32) = false := decide_eq_false (by omega)
    have e2 : decide (k = k) = true := decide_eq_true rfl
    rw [e1, e2] at this
    cases h : a.testBit k <;> simp [h] at this
  · have := both (k - 32) (by omega)
    have e1 : decide (k = k - 32 + 32) = true := decide_eq_true (by omega)
    have e2 : decide (k = k - 32) = false := decide_eq_false (by omega)
    rw [e1, e2] at this
    cases h : a.testBit (k - 32) <;> simp [h] at this
/-- One bit turned in halves that are alike. -/
theorem turned_is {a k : Int} (a0 : 0 ≤ a) (a1 : a ≤ 4294967295) (k0 : 0 ≤ k) (k1 : k < 64) :
    U64 (Go.bits .xor .u64 (a * 4294967296 + a) (IntKind.u64.wrap (2 ^ k.toNat))) ∧ calmB (Go.bits .xor .u64 (a * 4294967296 + a) (IntKind.u64.wrap (2 ^ k.toNat))) = false := by
  obtain ⟨n, rfl⟩ := Int.eq_ofNat_of_zero_le a0
  obtain ⟨j, rfl⟩ := Int.eq_ofNat_of_zero_le k0
  have hj : j < 64 := by omega
  have hp : (2 ^ j : Nat) < 2 ^ 64 := Nat.pow_lt_pow_right (by omega) hj
  have e1 : IntKind.u64.wrap (2 ^ ((j : Int)).toNat) = ((2 ^ j : Nat) : Int) := by
    rw [IntKind.wrap_u64, Int.toNat_natCast]
    have : ((2 : Int) ^ j) = ((2 ^ j : Nat) : Int) := by simp
    rw [this]
    clear this
    generalize (2 ^ j : Nat) = P at hp ⊢
    omega
  have e2 : ((n : Int) * 4294967296 + (n : Int)) = ((n * 4294967296 + n : Nat) : Int) := by simp
  rw [e1, e2, u64_xor_nat _ _ (by omega) (by omega)]
  have hx : (n * 4294967296 + n) ^^^ 2 ^ j < 2 ^ 64 := Nat.xor_lt_two_pow (by omega) hp
  have hn := nat_turned (a := n) (k := j) (by omega) hj
  generalize (n * 4294967296 + n) ^^^ 2 ^ j = N at hx hn
  refine ⟨⟨by omega, by omega⟩, decide_eq_false ?_⟩
  omega

set_option maxHeartbeats 4000000 in
theorem inboxCalm_row (s bit : Int) (hs : U64 s) (_ : I64 bit) (w : World) :
    Calls Try.prog 3 #[.int .u64 s, .int .i64 bit] w fun e w' => e = .returned (.bool true) ∧ Below w.heap.size w w' := by
  have h0 := hs.1; have h1 := hs.2
  obtain ⟨a, ha⟩ : ∃ a, a = s / 4294967296 := ⟨_, rfl⟩
  obtain ⟨b, hb⟩ : ∃ b, b = s % 4294967296 := ⟨_, rfl⟩
  have a0 : 0 ≤ a := by omega
  have a1 : a ≤ 4294967295 := by omega
  have b0 : 0 ≤ b := by omega
  have b1 : b ≤ 4294967295 := by omega
  have k0 := (mod_lt bit (n := 64) (by omega)).1; have k1 := (mod_lt bit (n := 64) (by omega)).2
  obtain ⟨tu, tc⟩ := turned_is a0 a1 k0 k1
  have ac : calmB (a * 4294967296 + a) = true := decide_eq_true (by omega)
  have au : U64 (a * 4294967296 + a) := ⟨by omega, by omega⟩
  have t0 : s.tdiv 4294967296 = a := by rw [Int.tdiv_eq_ediv_of_nonneg h0, ha]
  have t2 : s.tmod 4294967296 = b := by rw [Int.tmod_eq_emod_of_nonneg h0, hb]
  have t1 : IntKind.u64.wrap a = a := by rw [IntKind.wrap_u64]; omega
  have t3 : IntKind.u64.wrap (a * 4294967296) = a * 4294967296 := by rw [IntKind.wrap_u64]; omega
  have t4 : IntKind.u64.wrap (a * 4294967296 + a) = a * 4294967296 + a := by rw [IntKind.wrap_u64]; omega
  have t5 : s / 4294967296 = a := ha.symm
  have t6 : s % 4294967296 = b := hb.symm
  have sc : calmB s = decide (a = b) := by unfold calmB; rw [ha, hb]
  have Tu := Lib.hid tu; have Tc := Lib.hid tc; have Ac := Lib.hid ac; have Au := Lib.hid au; have Sc := Lib.hid sc; have Hs := Lib.hid hs
  clear tu tc ac au sc hs ha hb
  by_cases e : a = b
  · subst e
    rw [show decide (a = a) = true from decide_eq_true rfl] at Sc
    go_enter Try.func3, Try.ntmps3
    go_wp2_with fail
    refine (mod_any (v := bit) (n := 64) (by omega) (by omega) _).mono ?_
    rintro e w4 ⟨rfl, rfl⟩
    generalize mod bit 64 = k at k0 k1 Tu Tc ⊢
    go_wp2_with fail
    refine (awake18_any _).mono ?_
    rintro e w1 ⟨rfl, c1⟩
    have C1 := Lib.hid c1
    clear c1
    go_wp2_with fail
    refine (calm_pure Hs.out _).mono ?_
    rintro e w2 ⟨he, c2⟩
    rw [Sc.out] at he
    subst he
    have C2 := Lib.hid (C1.out.quiet c2)
    clear c2
    go_wp2_with fail
    refine (calm_pure Au.out _).mono ?_
    rintro e w3 ⟨he, c3⟩
    rw [Ac.out] at he
    subst he
    have C3 := Lib.hid (C2.out.quiet c3)
    clear c3
    go_wp2_with fail
    refine (calm_pure Tu.out _).mono ?_
    rintro e w5 ⟨he, c5⟩
    rw [Tc.out] at he
    subst he
    have C5 := Lib.hid (C3.out.quiet c5)
    clear c5
    go_wp2
    go_ret
    exact ⟨rfl, C5.out.below (by omega) (by simp)⟩
  · have ne : (a == b) = false := by simpa using e
    rw [decide_eq_false e] at Sc
    clear e
    go_enter Try.func3, Try.ntmps3
    go_wp2_with fail
    refine (mod_any (v := bit) (n := 64) (by omega) (by omega) _).mono ?_
    rintro e w4 ⟨rfl, rfl⟩
    generalize mod bit 64 = k at k0 k1 Tu Tc ⊢
    go_wp2_with fail
    refine (awake18_any _).mono ?_
    rintro e w1 ⟨rfl, c1⟩
    have C1 := Lib.hid c1
    clear c1
    go_wp2_with fail
    refine (calm_pure Hs.out _).mono ?_
    rintro e w2 ⟨he, c2⟩
    rw [Sc.out] at he
    subst he
    have C2 := Lib.hid (C1.out.quiet c2)
    clear c2
    go_wp2_with fail
    refine (calm_pure Au.out _).mono ?_
    rintro e w3 ⟨he, c3⟩
    rw [Ac.out] at he
    subst he
    have C3 := Lib.hid (C2.out.quiet c3)
    clear c3
    go_wp2_with fail
    refine (calm_pure Tu.out _).mono ?_
    rintro e w5 ⟨he, c5⟩
    rw [Tc.out] at he
    subst he
    have C5 := Lib.hid (C3.out.quiet c5)
    clear c5
    go_wp2
    go_ret
    exact ⟨rfl, C5.out.below (by omega) (by simp)⟩
end Go.Proofs.Ytjipjhmcpjffcaa
