/- RingFull: of any word and head, whether it is full; neither that nor Most is an access. -/
import Derived.Test.YtjipjhmcpjffcadRingA
set_option linter.unusedSimpArgs false
set_option linter.unusedVariables false
set_option maxRecDepth 20000
namespace Go.Proofs.Ytjipjhmcpjffcad
open Go Go.RowKit Go.Maps

theorem cl8_3 (v : Int) : (v < 1 ∧ cl8 v = 1) ∨ (∃ k : Nat, 1 ≤ k ∧ k ≤ 8 ∧ v = (k : Int) ∧ cl8 v = k) ∨ (8 < v ∧ cl8 v = 8) := by
  unfold cl8
  by_cases a : v < 1
  · exact .inl ⟨a, by omega⟩
  · by_cases b : 8 < v
    · exact .inr (.inr ⟨b, by omega⟩)
    · exact .inr (.inl ⟨v.toNat, by omega, by omega, by omega, by omega⟩)
theorem full3 {e : Ending} {hd c n : Int} (h : e = .returned (.bool (decide (hd ≤ c ∧ n ≤ c - hd)))) : (e = .returned (.bool true) ∧ hd ≤ c ∧ n ≤ c - hd) ∨ (e = .returned (.bool false) ∧ ¬ hd ≤ c) ∨ (e = .returned (.bool false) ∧ hd ≤ c ∧ ¬ n ≤ c - hd) := by
  subst h
  by_cases a : hd ≤ c <;> by_cases b : n ≤ c - hd <;> simp [a, b]
theorem full_yes {hd c n : Int} (h : hd ≤ c ∧ n ≤ c - hd) : decide (hd ≤ c ∧ n ≤ c - hd) = true := decide_eq_true h
theorem full_no {hd c n : Int} (h : ¬ (hd ≤ c ∧ n ≤ c - hd)) : decide (hd ≤ c ∧ n ≤ c - hd) = false := decide_eq_false h
set_option maxHeartbeats 8000000 in
theorem ringFull_row (obj most x hd : Int) (_ : I64 obj) (_ : I64 most) (hx : U64 x) (hh : U64 hd) (w : World) :
    Calls Try.prog 3 #[.int .i64 obj, .int .i64 most, .int .u64 x, .int .u64 hd] w fun e w' => e = .returned (.bool true) ∧ Below w.heap.size w w' := by
  have H0 := Lib.hid (Scope.empty w); have Hx := Lib.hid hx; have Hh := Lib.hid hh
  clear hx hh
  go_enter Try.func3, Try.ntmps3
  go_wp2_with fail
  refine (new_scope H0.out).mono ?_
  rintro e w1 ⟨m, rfl, s1⟩
  have S1 := Lib.hid s1
  clear s1
  go_wp2_with fail
  refine (rnew_scope S1.out m obj most).mono ?_
  rintro e w2 ⟨p, g, rfl, s2⟩
  obtain ⟨cs, hcs⟩ : ∃ cs, cs = zeros (cl8 most) := ⟨_, rfl⟩
  have lc : cl8 most = cs.length := by rw [hcs, zeros_length]
  have C3 := Lib.hid (cl8_3 most)
  rw [lc] at C3
  rw [← hcs, lc] at s2
  have S2 := Lib.hid (show Scope [] w w2 [memA m MS.zero, rb p m obj g cs.length, gb g cs] from s2)
  clear s2 hcs lc
  go_wp2_with fail
  refine (awake17_scope S2.out).mono ?_
  rintro e w3 ⟨rfl, s3⟩
  have S3 := Lib.hid s3
  clear s3
  go_wp2_with fail
  refine (parts_same Hx.out _).mono ?_
  rintro e w4 ⟨rfl, rfl⟩
  have cb : 0 ≤ wcnt x ∧ wcnt x ≤ 2305843009213693951 := by have := wC_b x; unfold wcnt; split <;> omega
  unfold partsR
  have hb := Hh.out
  obtain ⟨h0, h1⟩ := hb
  obtain ⟨c0, c1⟩ := cb
  have d0 : 0 ≤ hd % 12 := by omega
  have d1 : hd % 12 ≤ 11 := by omega
  have C := C3.out
  clear C3 H0 S1
  obtain ⟨N, hN, C⟩ : ∃ N : Int, (cs.length : Int) = N ∧ 1 ≤ N ∧ N ≤ 8 ∧ ((most < 1 ∧ N = 1) ∨ (1 ≤ most ∧ most ≤ 8 ∧ most = N) ∨ (8 < most ∧ N = 8)) := by
    refine ⟨_, rfl, ?_⟩
    rcases C with ⟨a, l⟩ | ⟨k, k0, k1, rfl, l⟩ | ⟨a, l⟩ <;> omega
  have LN := Lib.hid hN
  clear hN
  obtain ⟨n0, n1, C⟩ := C
  rcases C with ⟨a, rfl⟩ | ⟨a0, a1, rfl⟩ | ⟨a, rfl⟩
  all_goals
    go_wp2_with fail
    all_goals
      refine ((rmost_does (cs := cs)).at1 S3.out).mono ?_
      rintro e w5 ⟨he, s5⟩
      rw [LN.out] at he
      subst he
      have S5 := Lib.hid s5
      clear s5
      go_wp2_with fail
      refine ((rfull_does (cs := cs) (x := x) Hx.out Hh.out (by have := LN.out; omega)).at1 S5.out).mono ?_
      rintro e w6 ⟨he, s6⟩
      rw [LN.out] at he
      have S6 := Lib.hid s6
      clear s6
      rcases full3 he with ⟨A, A1, A2⟩ | ⟨A, A1⟩ | ⟨A, A1, A2⟩
      all_goals
        clear he
        subst A
        go_wp2_with fail
        refine ((rfull_does (cs := cs) (x := x) Hx.out (by unfold U64; omega) (by have := LN.out; omega)).at1 S6.out).mono ?_
        rintro e w7 ⟨he, s7⟩
        rw [LN.out] at he
        have S7 := Lib.hid s7
        clear s7
        rcases full3 he with ⟨A, B1, B2⟩ | ⟨A, B1⟩ | ⟨A, B1, B2⟩
        all_goals
          first
            | (exfalso; omega)
            | (clear he
               subst A
               go_wp2_with fail
               refine ((len_does (σ := MS.zero) (p := m) (by decide)).at0 S7.out).mono ?_
               rintro e w8 ⟨he, s8⟩
               rw [show ((MS.zero.log.length : Nat) : Int) = 0 from rfl] at he
               subst he
               have S8 := Lib.hid s8
               clear s8
               go_wp2
               go_ret
               refine ⟨congrArg (fun b => Ending.returned (Value.bool b)) (?_ : _ = true), S8.out.below⟩
               first | rfl | (simp; omega))
end Go.Proofs.Ytjipjhmcpjffcad
