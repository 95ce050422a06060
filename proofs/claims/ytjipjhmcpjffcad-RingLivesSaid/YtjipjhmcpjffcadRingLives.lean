/- RingLives: a word that is Active is rested, or claimed; one that is Idle is claimed, or shut; one that is shut stays so; what may not be is no access. -/
import Derived.Test.YtjipjhmcpjffcadRingM
set_option linter.unusedSimpArgs false
set_option linter.unusedVariables false
set_option maxRecDepth 20000
namespace Go.Proofs.Ytjipjhmcpjffcad
open Go Go.RowKit Go.Maps

theorem wpk_C {c s : Int} (h0 : 0 ≤ c) (h : c ≤ 100) (s0 : 0 ≤ s) (s2 : s ≤ 2) : wC (wpk c s) = c := by unfold wC wpk; omega
theorem wpk_S {c s : Int} (h0 : 0 ≤ c) (h : c ≤ 100) (s0 : 0 ≤ s) (s2 : s ≤ 2) : wS (wpk c s) = s := by unfold wS wpk; omega
theorem wpk_parts {c s : Int} (h0 : 0 ≤ c) (h : c ≤ 100) (s0 : 0 ≤ s) (s2 : s ≤ 2) : partsR (wpk c s) = .tuple #[.int .u64 c, .int .i64 s, .bool true] := by
  rw [parts_is (by rw [wpk_S h0 h s0 s2]; omega), wpk_C h0 h s0 s2, wpk_S h0 h s0 s2]
theorem T_yes {σ : MS} {obj x y : Int} {how : Nat} (who : Int) (hb : tB how x = true ∧ tW how x = y) (hn : σ.num (wordL obj) = x) : σ.turned obj how x = true ∧ (σ.turn who obj how x).num (wordL obj) = y ∧ (σ.turn who obj how x).log.length = σ.log.length + 1 := by
  obtain ⟨hb, rfl⟩ := hb
  unfold MS.turn MS.swap
  rw [if_pos hb, if_pos hn]
  exact ⟨by simp [MS.turned, hb, hn], by simp [MS.set, MS.put], by simp [MS.set, MS.put]⟩
theorem T_no {σ : MS} {obj x : Int} {how : Nat} (who : Int) (hb : tB how x = false) : σ.turned obj how x = false ∧ (σ.turn who obj how x) = σ := by
  unfold MS.turn
  rw [if_neg (by simp [hb])]
  exact ⟨by simp [MS.turned, hb], rfl⟩
section
variable {c : Int} (h0 : 0 ≤ c) (h : c ≤ 90)
include h0 h
theorem b00 : tB 0 (wpk c 0) = true ∧ tW 0 (wpk c 0) = wpk (c + 1) 1 := by
  have e : tB 0 (wpk c 0) = true := decide_eq_true (by rw [wpk_C h0 (by omega) (by omega) (by omega), wpk_S h0 (by omega) (by omega) (by omega)]; omega)
  exact ⟨e, by rw [show tW 0 (wpk c 0) = wpk (wC (wpk c 0) + 1) 1 from if_pos e, wpk_C h0 (by omega) (by omega) (by omega)]⟩
theorem b01 : tB 0 (wpk c 1) = true ∧ tW 0 (wpk c 1) = wpk (c + 1) 1 := by
  have e : tB 0 (wpk c 1) = true := decide_eq_true (by rw [wpk_C h0 (by omega) (by omega) (by omega), wpk_S h0 (by omega) (by omega) (by omega)]; omega)
  exact ⟨e, by rw [show tW 0 (wpk c 1) = wpk (wC (wpk c 1) + 1) 1 from if_pos e, wpk_C h0 (by omega) (by omega) (by omega)]⟩
theorem b02 : tB 0 (wpk c 2) = false := decide_eq_false (by rw [wpk_S h0 (by omega) (by omega) (by omega)]; omega)
theorem b10 : tB 1 (wpk c 0) = false := decide_eq_false (by rw [wpk_S h0 (by omega) (by omega) (by omega)]; omega)
theorem b11 : tB 1 (wpk c 1) = true ∧ tW 1 (wpk c 1) = wpk c 0 := by
  have e : tB 1 (wpk c 1) = true := decide_eq_true (by rw [wpk_S h0 (by omega) (by omega) (by omega)])
  exact ⟨e, by rw [show tW 1 (wpk c 1) = wpk (wC (wpk c 1)) 0 from if_pos e, wpk_C h0 (by omega) (by omega) (by omega)]⟩
theorem b12 : tB 1 (wpk c 2) = false := decide_eq_false (by rw [wpk_S h0 (by omega) (by omega) (by omega)]; omega)
theorem b20 : tB 2 (wpk c 0) = true ∧ tW 2 (wpk c 0) = wpk c 2 := by
  have e : tB 2 (wpk c 0) = true := decide_eq_true (by rw [wpk_S h0 (by omega) (by omega) (by omega)])
  exact ⟨e, by rw [show tW 2 (wpk c 0) = wpk (wC (wpk c 0)) 2 from if_pos e, wpk_C h0 (by omega) (by omega) (by omega)]⟩
theorem b21 : tB 2 (wpk c 1) = false := decide_eq_false (by rw [wpk_S h0 (by omega) (by omega) (by omega)]; omega)
theorem b22 : tB 2 (wpk c 2) = false := decide_eq_false (by rw [wpk_S h0 (by omega) (by omega) (by omega)]; omega)
end

set_option maxHeartbeats 8000000 in
theorem ringLives_row {w : World} (obj most : Int) (v : Value) (L : List Int) (ho : I64 obj) (_ : I64 most) (_ : ∀ n, n ∈ L → I64 n) (h : NumsAt .i64 w v L) :
    Calls Try.prog 6 #[.int .i64 obj, .int .i64 most, v] w fun e w' => e = .returned (.bool true) ∧ Below w.heap.size w w' := by
  obtain ⟨oa, cp, rfl, hlc, hcm, hel⟩ := h.form
  obtain ⟨N, hN⟩ : ∃ N, N = L.length := ⟨_, rfl⟩
  rw [← hN] at hlc ⊢
  have Hel := Lib.hid hel; have HN := Lib.hid hN; have S0 := Lib.hid (Scope.empty w); have Ho := Lib.hid ho
  clear hel hN h ho
  go_enter Try.func6, Try.ntmps6
  go_wp2_with fail
  refine (made17_scope S0.out obj most).mono ?_
  rintro e w1 ⟨m, p, g, q, x, g', cs, hl, -, rfl, s1⟩
  have S1 := Lib.hid s1
  clear s1 hl
  go_wp2_with fail
  refine (awake17_scope S1.out).mono ?_
  rintro e w2 ⟨rfl, s2⟩
  have S2 := Lib.hid (show Scope [] w w2 ([memA m (MS.zero), rb p m obj g cs.length, gb g cs] ++ [refA x 0 MS.zero, rrb q x obj g' cs.length, gb g' cs]) from by simpa using s2)
  clear s2 S1
  go_wp2_with fail
  go_loopw [10, 11, 12] (fun u10 u11 u12 wr => ∃ (k : Nat) (σ : MS) (c s : Int), k ≤ N ∧ k ≤ 60 ∧ u12 = .int .i64 k ∧ u10 = .int .u64 c ∧ u11 = .int .i64 s ∧ 0 ≤ c ∧ c ≤ k ∧ 0 ≤ s ∧ s ≤ 2 ∧ σ.num (wordL obj) = wpk c s ∧ σ.log.length ≤ 3 * k ∧ Scope [] w wr ([memA m (σ), rb p m obj g cs.length, gb g cs] ++ [refA x 0 MS.zero, rrb q x obj g' cs.length, gb g' cs])) (fun _ _ i _ => 60 - (intOf i).toNat)
  case atStart => exact ⟨0, MS.zero, 0, 0, by omega, by omega, rfl, rfl, rfl, by omega, by omega, by omega, by omega, rfl, by simp [MS.zero], S2.out⟩
  case round =>
    obtain ⟨k, σ, c, s, hk, hk2, rfl, rfl, rfl, c0, c1, s0, s2, hnum, hlg, hs⟩ := hrel
    have Sr := Lib.hid hs; have Hn := Lib.hid hnum
    clear hs S2 hnum
    by_cases hlt : k < N ∧ k < 60
    · obtain ⟨hlt, h60⟩ := hlt
      obtain ⟨z, hz⟩ : ∃ z, L[k]? = some z := ⟨_, List.getElem?_eq_getElem (by rw [← HN.out]; exact hlt)⟩
      obtain ⟨gg, off, rfl, hc⟩ := Hel.out k z hz
      have d0 := Lib.hid hc
      clear hc hz
      have i1 : (k : Int) < (N : Int) := by omega
      have i0 : (0 : Int) ≤ (k : Int) := by omega
      go_wp2_with fail
      refine ((rword_does 0 Ho.out (by omega)).call (Bs := [refA x 0 MS.zero, rrb q x obj g' cs.length, gb g' cs]) Sr.out).mono ?_
      rintro e w4 ⟨he, s4⟩
      rw [Hn.out] at he
      subst he
      have hn4 : (σ.put 0 1 (wordL obj)).num (wordL obj) = wpk c s := Hn.out
      have hl4 : (σ.put 0 1 (wordL obj)).log.length = σ.log.length + 1 := by simp [MS.put]
      generalize σ.put 0 1 (wordL obj) = σ4 at s4 hn4 hl4
      obtain ⟨n, hnn⟩ : ∃ n, n = σ.log.length := ⟨_, rfl⟩
      rw [← hnn] at hl4 hlg
      have S4 := Lib.hid s4; have N4 := Lib.hid hn4; have L4 := Lib.hid hl4
      clear s4 hn4 Sr Hn hl4 hnn
      clear σ
      go_wp2_with fail
      refine ((len_does (σ := σ4) (p := m) (by rw [L4.out]; omega)).call (As := [memA m σ4]) (Bs := [rb p m obj g cs.length, gb g cs] ++ [refA x 0 MS.zero, rrb q x obj g' cs.length, gb g' cs]) S4.out).mono ?_
      rintro e w5 ⟨he, s5⟩
      obtain ⟨l, hl⟩ : ∃ l : Int, l = (n : Int) + 1 := ⟨_, rfl⟩
      have hq1 : (l + 1 == l + 2) = false := beq_eq_false_iff_ne.2 (by omega)
      have hq2 : (l + 1 != l + 1) = false := by simp
      rw [show ((σ4.log.length : Nat) : Int) = l by rw [L4.out, hl]; omega] at he
      subst he
      have d1 := d0.out w5 s5.1
      have S5 := Lib.hid s5
      clear s5 S4
      have hmz := mod_lt z (n := 5) (by omega)
      obtain ⟨t, ht⟩ : ∃ t, t = mod z 5 := ⟨_, rfl⟩
      rw [← ht] at hmz
      have hs3 : s = 0 ∨ s = 1 ∨ s = 2 := by omega
      have ht5 : t = 0 ∨ t = 1 ∨ t = 2 ∨ t = 3 ∨ t = 4 := by omega
      have Ht := Lib.hid ht.symm
      clear hmz ht
      rcases hs3 with rfl | rfl | rfl
      · rcases ht5 with rfl | rfl | rfl | rfl | rfl
        · go_wp2_with fail
          refine (mod_any (v := z) (n := 5) (by omega) (by omega) _).mono ?_
          rintro e w6 ⟨he, rfl⟩
          rw [Ht.out] at he
          subst he
          clear d1
          by_cases k4 : (k : Int) % 4 = 0
          · have k4' : ((k : Int) % 4 == 0) = true := by simp [k4]
            go_wp2_with fail
            refine ((rshut_does 0 (wpk c 0) (wpk_u (by omega) (by omega) (by omega) (by omega)) Ho.out (by rw [L4.out]; omega)).call (Bs := [refA x 0 MS.zero, rrb q x obj g' cs.length, gb g' cs]) S5.out).mono ?_
            rintro e w7 ⟨he, s7⟩
            obtain ⟨y1, y2, y3⟩ := T_yes (how := 2) 0 (b20 c0 (by omega)) N4.out
            rw [y1] at he
            subst he
            rw [L4.out] at y3
            generalize σ4.turn 0 obj 2 (wpk c 0) = σ6 at s7 y2 y3
            have S7 := Lib.hid s7; have N6 := Lib.hid y2; have L6 := Lib.hid (show σ6.log.length = n + 2 from y3)
            clear s7 y1 y2 y3 S5 N4 L4
            clear σ4
            go_wp2_with fail
            refine ((rword_does 0 Ho.out (by rw [L6.out]; omega)).call (Bs := [refA x 0 MS.zero, rrb q x obj g' cs.length, gb g' cs]) S7.out).mono ?_
            rintro e w8 ⟨he, s8⟩
            rw [N6.out] at he
            subst he
            have hn8 : (σ6.put 0 1 (wordL obj)).num (wordL obj) = wpk c 2 := N6.out
            have hl8 : (σ6.put 0 1 (wordL obj)).log.length = n + 3 := by rw [show (σ6.put 0 1 (wordL obj)).log.length = σ6.log.length + 1 by simp [MS.put], L6.out]
            generalize σ6.put 0 1 (wordL obj) = σ8 at s8 hn8 hl8
            have S8 := Lib.hid s8; have N8 := Lib.hid hn8; have L8 := Lib.hid hl8
            clear s8 hn8 hl8 N6 L6
            go_wp2_with fail
            refine (parts_same (wpk_u (by omega) (by omega) (by omega) (by omega)) _).mono ?_
            rintro e w9 ⟨rfl, rfl⟩
            rw [wpk_parts (by omega) (by omega) (by omega) (by omega)]
            go_wp2_with fail
            refine ((len_does (σ := σ8) (p := m) (by rw [L8.out]; omega)).call (As := [memA m σ8]) (Bs := [rb p m obj g cs.length, gb g cs] ++ [refA x 0 MS.zero, rrb q x obj g' cs.length, gb g' cs]) S8.out).mono ?_
            rintro e w10 ⟨he, s10⟩
            rw [show ((σ8.log.length : Nat) : Int) = l + 2 by rw [L8.out, hl]; omega] at he
            subst he
            have S8 := Lib.hid s10
            clear s10
            go_wp2_with fail
            go_roundw
            case rel => exact ⟨k + 1, σ8, c, 2, by omega, by omega, by go_num, by first | rfl | go_num, rfl, by omega, by omega, by omega, by omega, N8.out, by rw [L8.out]; omega, S8.out⟩
            case measure => simp [intOf]; omega
          · have k4' : ((k : Int) % 4 == 0) = false := by simp [k4]
            have S7 := S5; have N6 := N4; have L6 := L4
            clear S5 N4 L4
            go_wp2_with fail
            refine ((rword_does 0 Ho.out (by rw [L6.out]; omega)).call (Bs := [refA x 0 MS.zero, rrb q x obj g' cs.length, gb g' cs]) S7.out).mono ?_
            rintro e w8 ⟨he, s8⟩
            rw [N6.out] at he
            subst he
            have hn8 : (σ4.put 0 1 (wordL obj)).num (wordL obj) = wpk c 0 := N6.out
            have hl8 : (σ4.put 0 1 (wordL obj)).log.length = n + 2 := by rw [show (σ4.put 0 1 (wordL obj)).log.length = σ4.log.length + 1 by simp [MS.put], L6.out]
            generalize σ4.put 0 1 (wordL obj) = σ8 at s8 hn8 hl8
            have S8 := Lib.hid s8; have N8 := Lib.hid hn8; have L8 := Lib.hid hl8
            clear s8 hn8 hl8 N6 L6
            go_wp2_with fail
            refine (parts_same (wpk_u (by omega) (by omega) (by omega) (by omega)) _).mono ?_
            rintro e w9 ⟨rfl, rfl⟩
            rw [wpk_parts (by omega) (by omega) (by omega) (by omega)]
            go_wp2_with fail
            refine ((len_does (σ := σ8) (p := m) (by rw [L8.out]; omega)).call (As := [memA m σ8]) (Bs := [rb p m obj g cs.length, gb g cs] ++ [refA x 0 MS.zero, rrb q x obj g' cs.length, gb g' cs]) S8.out).mono ?_
            rintro e w10 ⟨he, s10⟩
            rw [show ((σ8.log.length : Nat) : Int) = l + 1 by rw [L8.out, hl]; omega] at he
            subst he
            have S8 := Lib.hid s10
            clear s10
            go_wp2_with fail
            refine ((len_does (σ := σ8) (p := m) (by rw [L8.out]; omega)).call (As := [memA m σ8]) (Bs := [rb p m obj g cs.length, gb g cs] ++ [refA x 0 MS.zero, rrb q x obj g' cs.length, gb g' cs]) S8.out).mono ?_
            rintro e w10 ⟨he, s10⟩
            rw [show ((σ8.log.length : Nat) : Int) = l + 1 by rw [L8.out, hl]; omega] at he
            subst he
            have S8 := Lib.hid s10
            clear s10
            go_wp2_with fail
            go_roundw
            case rel => exact ⟨k + 1, σ8, c, 0, by omega, by omega, by go_num, by first | rfl | go_num, rfl, by omega, by omega, by omega, by omega, N8.out, by rw [L8.out]; omega, S8.out⟩
            case measure => simp [intOf]; omega
        · go_wp2_with fail
          refine (mod_any (v := z) (n := 5) (by omega) (by omega) _).mono ?_
          rintro e w6 ⟨he, rfl⟩
          rw [Ht.out] at he
          subst he
          clear d1
          go_wp2_with fail
          refine ((rrest_does 0 (wpk c 0) (wpk_u (by omega) (by omega) (by omega) (by omega)) Ho.out (by rw [L4.out]; omega)).call (Bs := [refA x 0 MS.zero, rrb q x obj g' cs.length, gb g' cs]) S5.out).mono ?_
          rintro e w7 ⟨he, s7⟩
          obtain ⟨y1, y2⟩ := T_no (σ := σ4) (obj := obj) (how := 1) 0 (b10 c0 (by omega))
          rw [y1] at he
          subst he
          rw [y2] at s7
          have S7 := Lib.hid s7; have N6 := Lib.hid N4.out; have L6 := Lib.hid L4.out
          clear s7 y1 y2 S5 N4 L4
          go_wp2_with fail
          refine ((rword_does 0 Ho.out (by rw [L6.out]; omega)).call (Bs := [refA x 0 MS.zero, rrb q x obj g' cs.length, gb g' cs]) S7.out).mono ?_
          rintro e w8 ⟨he, s8⟩
          rw [N6.out] at he
          subst he
          have hn8 : (σ4.put 0 1 (wordL obj)).num (wordL obj) = wpk c 0 := N6.out
          have hl8 : (σ4.put 0 1 (wordL obj)).log.length = n + 2 := by rw [show (σ4.put 0 1 (wordL obj)).log.length = σ4.log.length + 1 by simp [MS.put], L6.out]
          generalize σ4.put 0 1 (wordL obj) = σ8 at s8 hn8 hl8
          have S8 := Lib.hid s8; have N8 := Lib.hid hn8; have L8 := Lib.hid hl8
          clear s8 hn8 hl8 N6 L6
          go_wp2_with fail
          refine (parts_same (wpk_u (by omega) (by omega) (by omega) (by omega)) _).mono ?_
          rintro e w9 ⟨rfl, rfl⟩
          rw [wpk_parts (by omega) (by omega) (by omega) (by omega)]
          go_wp2_with fail
          refine ((len_does (σ := σ8) (p := m) (by rw [L8.out]; omega)).call (As := [memA m σ8]) (Bs := [rb p m obj g cs.length, gb g cs] ++ [refA x 0 MS.zero, rrb q x obj g' cs.length, gb g' cs]) S8.out).mono ?_
          rintro e w10 ⟨he, s10⟩
          rw [show ((σ8.log.length : Nat) : Int) = l + 1 by rw [L8.out, hl]; omega] at he
          subst he
          have S8 := Lib.hid s10
          clear s10
          go_wp2_with fail
          refine ((len_does (σ := σ8) (p := m) (by rw [L8.out]; omega)).call (As := [memA m σ8]) (Bs := [rb p m obj g cs.length, gb g cs] ++ [refA x 0 MS.zero, rrb q x obj g' cs.length, gb g' cs]) S8.out).mono ?_
          rintro e w10 ⟨he, s10⟩
          rw [show ((σ8.log.length : Nat) : Int) = l + 1 by rw [L8.out, hl]; omega] at he
          subst he
          have S8 := Lib.hid s10
          clear s10
          go_wp2_with fail
          go_roundw
          case rel => exact ⟨k + 1, σ8, c, 0, by omega, by omega, by go_num, by first | rfl | go_num, rfl, by omega, by omega, by omega, by omega, N8.out, by rw [L8.out]; omega, S8.out⟩
          case measure => simp [intOf]; omega
        · go_wp2_with fail
          refine (mod_any (v := z) (n := 5) (by omega) (by omega) _).mono ?_
          rintro e w6 ⟨he, rfl⟩
          rw [Ht.out] at he
          subst he
          clear d1
          go_wp2_with fail
          refine ((rrest_does 0 (wpk c 0) (wpk_u (by omega) (by omega) (by omega) (by omega)) Ho.out (by rw [L4.out]; omega)).call (Bs := [refA x 0 MS.zero, rrb q x obj g' cs.length, gb g' cs]) S5.out).mono ?_
          rintro e w7 ⟨he, s7⟩
          obtain ⟨y1, y2⟩ := T_no (σ := σ4) (obj := obj) (how := 1) 0 (b10 c0 (by omega))
          rw [y1] at he
          subst he
          rw [y2] at s7
          have S7 := Lib.hid s7; have N6 := Lib.hid N4.out; have L6 := Lib.hid L4.out
          clear s7 y1 y2 S5 N4 L4
          go_wp2_with fail
          refine ((rword_does 0 Ho.out (by rw [L6.out]; omega)).call (Bs := [refA x 0 MS.zero, rrb q x obj g' cs.length, gb g' cs]) S7.out).mono ?_
          rintro e w8 ⟨he, s8⟩
          rw [N6.out] at he
          subst he
          have hn8 : (σ4.put 0 1 (wordL obj)).num (wordL obj) = wpk c 0 := N6.out
          have hl8 : (σ4.put 0 1 (wordL obj)).log.length = n + 2 := by rw [show (σ4.put 0 1 (wordL obj)).log.length = σ4.log.length + 1 by simp [MS.put], L6.out]
          generalize σ4.put 0 1 (wordL obj) = σ8 at s8 hn8 hl8
          have S8 := Lib.hid s8; have N8 := Lib.hid hn8; have L8 := Lib.hid hl8
          clear s8 hn8 hl8 N6 L6
          go_wp2_with fail
          refine (parts_same (wpk_u (by omega) (by omega) (by omega) (by omega)) _).mono ?_
          rintro e w9 ⟨rfl, rfl⟩
          rw [wpk_parts (by omega) (by omega) (by omega) (by omega)]
          go_wp2_with fail
          refine ((len_does (σ := σ8) (p := m) (by rw [L8.out]; omega)).call (As := [memA m σ8]) (Bs := [rb p m obj g cs.length, gb g cs] ++ [refA x 0 MS.zero, rrb q x obj g' cs.length, gb g' cs]) S8.out).mono ?_
          rintro e w10 ⟨he, s10⟩
          rw [show ((σ8.log.length : Nat) : Int) = l + 1 by rw [L8.out, hl]; omega] at he
          subst he
          have S8 := Lib.hid s10
          clear s10
          go_wp2_with fail
          refine ((len_does (σ := σ8) (p := m) (by rw [L8.out]; omega)).call (As := [memA m σ8]) (Bs := [rb p m obj g cs.length, gb g cs] ++ [refA x 0 MS.zero, rrb q x obj g' cs.length, gb g' cs]) S8.out).mono ?_
          rintro e w10 ⟨he, s10⟩
          rw [show ((σ8.log.length : Nat) : Int) = l + 1 by rw [L8.out, hl]; omega] at he
          subst he
          have S8 := Lib.hid s10
          clear s10
          go_wp2_with fail
          go_roundw
          case rel => exact ⟨k + 1, σ8, c, 0, by omega, by omega, by go_num, by first | rfl | go_num, rfl, by omega, by omega, by omega, by omega, N8.out, by rw [L8.out]; omega, S8.out⟩
          case measure => simp [intOf]; omega
        · go_wp2_with fail
          refine (mod_any (v := z) (n := 5) (by omega) (by omega) _).mono ?_
          rintro e w6 ⟨he, rfl⟩
          rw [Ht.out] at he
          subst he
          clear d1
          go_wp2_with fail
          refine ((rclaim_does 0 (wpk c 0) (wpk_u (by omega) (by omega) (by omega) (by omega)) Ho.out (by rw [L4.out]; omega)).call (Bs := [refA x 0 MS.zero, rrb q x obj g' cs.length, gb g' cs]) S5.out).mono ?_
          rintro e w7 ⟨he, s7⟩
          obtain ⟨y1, y2, y3⟩ := T_yes (how := 0) 0 (b00 c0 (by omega)) N4.out
          rw [y1] at he
          subst he
          rw [L4.out] at y3
          generalize σ4.turn 0 obj 0 (wpk c 0) = σ6 at s7 y2 y3
          have S7 := Lib.hid s7; have N6 := Lib.hid y2; have L6 := Lib.hid (show σ6.log.length = n + 2 from y3)
          clear s7 y1 y2 y3 S5 N4 L4
          clear σ4
          go_wp2_with fail
          refine ((rword_does 0 Ho.out (by rw [L6.out]; omega)).call (Bs := [refA x 0 MS.zero, rrb q x obj g' cs.length, gb g' cs]) S7.out).mono ?_
          rintro e w8 ⟨he, s8⟩
          rw [N6.out] at he
          subst he
          have hn8 : (σ6.put 0 1 (wordL obj)).num (wordL obj) = wpk (c + 1) 1 := N6.out
          have hl8 : (σ6.put 0 1 (wordL obj)).log.length = n + 3 := by rw [show (σ6.put 0 1 (wordL obj)).log.length = σ6.log.length + 1 by simp [MS.put], L6.out]
          generalize σ6.put 0 1 (wordL obj) = σ8 at s8 hn8 hl8
          have S8 := Lib.hid s8; have N8 := Lib.hid hn8; have L8 := Lib.hid hl8
          clear s8 hn8 hl8 N6 L6
          go_wp2_with fail
          refine (parts_same (wpk_u (by omega) (by omega) (by omega) (by omega)) _).mono ?_
          rintro e w9 ⟨rfl, rfl⟩
          rw [wpk_parts (by omega) (by omega) (by omega) (by omega)]
          go_wp2_with fail
          refine ((len_does (σ := σ8) (p := m) (by rw [L8.out]; omega)).call (As := [memA m σ8]) (Bs := [rb p m obj g cs.length, gb g cs] ++ [refA x 0 MS.zero, rrb q x obj g' cs.length, gb g' cs]) S8.out).mono ?_
          rintro e w10 ⟨he, s10⟩
          rw [show ((σ8.log.length : Nat) : Int) = l + 2 by rw [L8.out, hl]; omega] at he
          subst he
          have S8 := Lib.hid s10
          clear s10
          go_wp2_with fail
          go_roundw
          case rel => exact ⟨k + 1, σ8, (c + 1), 1, by omega, by omega, by go_num, by first | rfl | go_num, rfl, by omega, by omega, by omega, by omega, N8.out, by rw [L8.out]; omega, S8.out⟩
          case measure => simp [intOf]; omega
        · go_wp2_with fail
          refine (mod_any (v := z) (n := 5) (by omega) (by omega) _).mono ?_
          rintro e w6 ⟨he, rfl⟩
          rw [Ht.out] at he
          subst he
          clear d1
          go_wp2_with fail
          refine ((rclaim_does 0 (wpk c 0) (wpk_u (by omega) (by omega) (by omega) (by omega)) Ho.out (by rw [L4.out]; omega)).call (Bs := [refA x 0 MS.zero, rrb q x obj g' cs.length, gb g' cs]) S5.out).mono ?_
          rintro e w7 ⟨he, s7⟩
          obtain ⟨y1, y2, y3⟩ := T_yes (how := 0) 0 (b00 c0 (by omega)) N4.out
          rw [y1] at he
          subst he
          rw [L4.out] at y3
          generalize σ4.turn 0 obj 0 (wpk c 0) = σ6 at s7 y2 y3
          have S7 := Lib.hid s7; have N6 := Lib.hid y2; have L6 := Lib.hid (show σ6.log.length = n + 2 from y3)
          clear s7 y1 y2 y3 S5 N4 L4
          clear σ4
          go_wp2_with fail
          refine ((rword_does 0 Ho.out (by rw [L6.out]; omega)).call (Bs := [refA x 0 MS.zero, rrb q x obj g' cs.length, gb g' cs]) S7.out).mono ?_
          rintro e w8 ⟨he, s8⟩
          rw [N6.out] at he
          subst he
          have hn8 : (σ6.put 0 1 (wordL obj)).num (wordL obj) = wpk (c + 1) 1 := N6.out
          have hl8 : (σ6.put 0 1 (wordL obj)).log.length = n + 3 := by rw [show (σ6.put 0 1 (wordL obj)).log.length = σ6.log.length + 1 by simp [MS.put], L6.out]
          generalize σ6.put 0 1 (wordL obj) = σ8 at s8 hn8 hl8
          have S8 := Lib.hid s8; have N8 := Lib.hid hn8; have L8 := Lib.hid hl8
          clear s8 hn8 hl8 N6 L6
          go_wp2_with fail
          refine (parts_same (wpk_u (by omega) (by omega) (by omega) (by omega)) _).mono ?_
          rintro e w9 ⟨rfl, rfl⟩
          rw [wpk_parts (by omega) (by omega) (by omega) (by omega)]
          go_wp2_with fail
          refine ((len_does (σ := σ8) (p := m) (by rw [L8.out]; omega)).call (As := [memA m σ8]) (Bs := [rb p m obj g cs.length, gb g cs] ++ [refA x 0 MS.zero, rrb q x obj g' cs.length, gb g' cs]) S8.out).mono ?_
          rintro e w10 ⟨he, s10⟩
          rw [show ((σ8.log.length : Nat) : Int) = l + 2 by rw [L8.out, hl]; omega] at he
          subst he
          have S8 := Lib.hid s10
          clear s10
          go_wp2_with fail
          go_roundw
          case rel => exact ⟨k + 1, σ8, (c + 1), 1, by omega, by omega, by go_num, by first | rfl | go_num, rfl, by omega, by omega, by omega, by omega, N8.out, by rw [L8.out]; omega, S8.out⟩
          case measure => simp [intOf]; omega
      · rcases ht5 with rfl | rfl | rfl | rfl | rfl
        · go_wp2_with fail
          refine (mod_any (v := z) (n := 5) (by omega) (by omega) _).mono ?_
          rintro e w6 ⟨he, rfl⟩
          rw [Ht.out] at he
          subst he
          clear d1
          by_cases k4 : (k : Int) % 4 = 0
          · have k4' : ((k : Int) % 4 == 0) = true := by simp [k4]
            go_wp2_with fail
            refine ((rshut_does 0 (wpk c 1) (wpk_u (by omega) (by omega) (by omega) (by omega)) Ho.out (by rw [L4.out]; omega)).call (Bs := [refA x 0 MS.zero, rrb q x obj g' cs.length, gb g' cs]) S5.out).mono ?_
            rintro e w7 ⟨he, s7⟩
            obtain ⟨y1, y2⟩ := T_no (σ := σ4) (obj := obj) (how := 2) 0 (b21 c0 (by omega))
            rw [y1] at he
            subst he
            rw [y2] at s7
            have S7 := Lib.hid s7; have N6 := Lib.hid N4.out; have L6 := Lib.hid L4.out
            clear s7 y1 y2 S5 N4 L4
            go_wp2_with fail
            refine ((rword_does 0 Ho.out (by rw [L6.out]; omega)).call (Bs := [refA x 0 MS.zero, rrb q x obj g' cs.length, gb g' cs]) S7.out).mono ?_
            rintro e w8 ⟨he, s8⟩
            rw [N6.out] at he
            subst he
            have hn8 : (σ4.put 0 1 (wordL obj)).num (wordL obj) = wpk c 1 := N6.out
            have hl8 : (σ4.put 0 1 (wordL obj)).log.length = n + 2 := by rw [show (σ4.put 0 1 (wordL obj)).log.length = σ4.log.length + 1 by simp [MS.put], L6.out]
            generalize σ4.put 0 1 (wordL obj) = σ8 at s8 hn8 hl8
            have S8 := Lib.hid s8; have N8 := Lib.hid hn8; have L8 := Lib.hid hl8
            clear s8 hn8 hl8 N6 L6
            go_wp2_with fail
            refine (parts_same (wpk_u (by omega) (by omega) (by omega) (by omega)) _).mono ?_
            rintro e w9 ⟨rfl, rfl⟩
            rw [wpk_parts (by omega) (by omega) (by omega) (by omega)]
            go_wp2_with fail
            refine ((len_does (σ := σ8) (p := m) (by rw [L8.out]; omega)).call (As := [memA m σ8]) (Bs := [rb p m obj g cs.length, gb g cs] ++ [refA x 0 MS.zero, rrb q x obj g' cs.length, gb g' cs]) S8.out).mono ?_
            rintro e w10 ⟨he, s10⟩
            rw [show ((σ8.log.length : Nat) : Int) = l + 1 by rw [L8.out, hl]; omega] at he
            subst he
            have S8 := Lib.hid s10
            clear s10
            go_wp2_with fail
            refine ((len_does (σ := σ8) (p := m) (by rw [L8.out]; omega)).call (As := [memA m σ8]) (Bs := [rb p m obj g cs.length, gb g cs] ++ [refA x 0 MS.zero, rrb q x obj g' cs.length, gb g' cs]) S8.out).mono ?_
            rintro e w10 ⟨he, s10⟩
            rw [show ((σ8.log.length : Nat) : Int) = l + 1 by rw [L8.out, hl]; omega] at he
            subst he
            have S8 := Lib.hid s10
            clear s10
            go_wp2_with fail
            go_roundw
            case rel => exact ⟨k + 1, σ8, c, 1, by omega, by omega, by go_num, by first | rfl | go_num, rfl, by omega, by omega, by omega, by omega, N8.out, by rw [L8.out]; omega, S8.out⟩
            case measure => simp [intOf]; omega
          · have k4' : ((k : Int) % 4 == 0) = false := by simp [k4]
            have S7 := S5; have N6 := N4; have L6 := L4
            clear S5 N4 L4
            go_wp2_with fail
            refine ((rword_does 0 Ho.out (by rw [L6.out]; omega)).call (Bs := [refA x 0 MS.zero, rrb q x obj g' cs.length, gb g' cs]) S7.out).mono ?_
            rintro e w8 ⟨he, s8⟩
            rw [N6.out] at he
            subst he
            have hn8 : (σ4.put 0 1 (wordL obj)).num (wordL obj) = wpk c 1 := N6.out
            have hl8 : (σ4.put 0 1 (wordL obj)).log.length = n + 2 := by rw [show (σ4.put 0 1 (wordL obj)).log.length = σ4.log.length + 1 by simp [MS.put], L6.out]
            generalize σ4.put 0 1 (wordL obj) = σ8 at s8 hn8 hl8
            have S8 := Lib.hid s8; have N8 := Lib.hid hn8; have L8 := Lib.hid hl8
            clear s8 hn8 hl8 N6 L6
            go_wp2_with fail
            refine (parts_same (wpk_u (by omega) (by omega) (by omega) (by omega)) _).mono ?_
            rintro e w9 ⟨rfl, rfl⟩
            rw [wpk_parts (by omega) (by omega) (by omega) (by omega)]
            go_wp2_with fail
            refine ((len_does (σ := σ8) (p := m) (by rw [L8.out]; omega)).call (As := [memA m σ8]) (Bs := [rb p m obj g cs.length, gb g cs] ++ [refA x 0 MS.zero, rrb q x obj g' cs.length, gb g' cs]) S8.out).mono ?_
            rintro e w10 ⟨he, s10⟩
            rw [show ((σ8.log.length : Nat) : Int) = l + 1 by rw [L8.out, hl]; omega] at he
            subst he
            have S8 := Lib.hid s10
            clear s10
            go_wp2_with fail
            refine ((len_does (σ := σ8) (p := m) (by rw [L8.out]; omega)).call (As := [memA m σ8]) (Bs := [rb p m obj g cs.length, gb g cs] ++ [refA x 0 MS.zero, rrb q x obj g' cs.length, gb g' cs]) S8.out).mono ?_
            rintro e w10 ⟨he, s10⟩
            rw [show ((σ8.log.length : Nat) : Int) = l + 1 by rw [L8.out, hl]; omega] at he
            subst he
            have S8 := Lib.hid s10
            clear s10
            go_wp2_with fail
            go_roundw
            case rel => exact ⟨k + 1, σ8, c, 1, by omega, by omega, by go_num, by first | rfl | go_num, rfl, by omega, by omega, by omega, by omega, N8.out, by rw [L8.out]; omega, S8.out⟩
            case measure => simp [intOf]; omega
        · go_wp2_with fail
          refine (mod_any (v := z) (n := 5) (by omega) (by omega) _).mono ?_
          rintro e w6 ⟨he, rfl⟩
          rw [Ht.out] at he
          subst he
          clear d1
          go_wp2_with fail
          refine ((rrest_does 0 (wpk c 1) (wpk_u (by omega) (by omega) (by omega) (by omega)) Ho.out (by rw [L4.out]; omega)).call (Bs := [refA x 0 MS.zero, rrb q x obj g' cs.length, gb g' cs]) S5.out).mono ?_
          rintro e w7 ⟨he, s7⟩
          obtain ⟨y1, y2, y3⟩ := T_yes (how := 1) 0 (b11 c0 (by omega)) N4.out
          rw [y1] at he
          subst he
          rw [L4.out] at y3
          generalize σ4.turn 0 obj 1 (wpk c 1) = σ6 at s7 y2 y3
          have S7 := Lib.hid s7; have N6 := Lib.hid y2; have L6 := Lib.hid (show σ6.log.length = n + 2 from y3)
          clear s7 y1 y2 y3 S5 N4 L4
          clear σ4
          go_wp2_with fail
          refine ((rword_does 0 Ho.out (by rw [L6.out]; omega)).call (Bs := [refA x 0 MS.zero, rrb q x obj g' cs.length, gb g' cs]) S7.out).mono ?_
          rintro e w8 ⟨he, s8⟩
          rw [N6.out] at he
          subst he
          have hn8 : (σ6.put 0 1 (wordL obj)).num (wordL obj) = wpk c 0 := N6.out
          have hl8 : (σ6.put 0 1 (wordL obj)).log.length = n + 3 := by rw [show (σ6.put 0 1 (wordL obj)).log.length = σ6.log.length + 1 by simp [MS.put], L6.out]
          generalize σ6.put 0 1 (wordL obj) = σ8 at s8 hn8 hl8
          have S8 := Lib.hid s8; have N8 := Lib.hid hn8; have L8 := Lib.hid hl8
          clear s8 hn8 hl8 N6 L6
          go_wp2_with fail
          refine (parts_same (wpk_u (by omega) (by omega) (by omega) (by omega)) _).mono ?_
          rintro e w9 ⟨rfl, rfl⟩
          rw [wpk_parts (by omega) (by omega) (by omega) (by omega)]
          go_wp2_with fail
          refine ((len_does (σ := σ8) (p := m) (by rw [L8.out]; omega)).call (As := [memA m σ8]) (Bs := [rb p m obj g cs.length, gb g cs] ++ [refA x 0 MS.zero, rrb q x obj g' cs.length, gb g' cs]) S8.out).mono ?_
          rintro e w10 ⟨he, s10⟩
          rw [show ((σ8.log.length : Nat) : Int) = l + 2 by rw [L8.out, hl]; omega] at he
          subst he
          have S8 := Lib.hid s10
          clear s10
          go_wp2_with fail
          go_roundw
          case rel => exact ⟨k + 1, σ8, c, 0, by omega, by omega, by go_num, by first | rfl | go_num, rfl, by omega, by omega, by omega, by omega, N8.out, by rw [L8.out]; omega, S8.out⟩
          case measure => simp [intOf]; omega
        · go_wp2_with fail
          refine (mod_any (v := z) (n := 5) (by omega) (by omega) _).mono ?_
          rintro e w6 ⟨he, rfl⟩
          rw [Ht.out] at he
          subst he
          clear d1
          go_wp2_with fail
          refine ((rrest_does 0 (wpk c 1) (wpk_u (by omega) (by omega) (by omega) (by omega)) Ho.out (by rw [L4.out]; omega)).call (Bs := [refA x 0 MS.zero, rrb q x obj g' cs.length, gb g' cs]) S5.out).mono ?_
          rintro e w7 ⟨he, s7⟩
          obtain ⟨y1, y2, y3⟩ := T_yes (how := 1) 0 (b11 c0 (by omega)) N4.out
          rw [y1] at he
          subst he
          rw [L4.out] at y3
          generalize σ4.turn 0 obj 1 (wpk c 1) = σ6 at s7 y2 y3
          have S7 := Lib.hid s7; have N6 := Lib.hid y2; have L6 := Lib.hid (show σ6.log.length = n + 2 from y3)
          clear s7 y1 y2 y3 S5 N4 L4
          clear σ4
          go_wp2_with fail
          refine ((rword_does 0 Ho.out (by rw [L6.out]; omega)).call (Bs := [refA x 0 MS.zero, rrb q x obj g' cs.length, gb g' cs]) S7.out).mono ?_
          rintro e w8 ⟨he, s8⟩
          rw [N6.out] at he
          subst he
          have hn8 : (σ6.put 0 1 (wordL obj)).num (wordL obj) = wpk c 0 := N6.out
          have hl8 : (σ6.put 0 1 (wordL obj)).log.length = n + 3 := by rw [show (σ6.put 0 1 (wordL obj)).log.length = σ6.log.length + 1 by simp [MS.put], L6.out]
          generalize σ6.put 0 1 (wordL obj) = σ8 at s8 hn8 hl8
          have S8 := Lib.hid s8; have N8 := Lib.hid hn8; have L8 := Lib.hid hl8
          clear s8 hn8 hl8 N6 L6
          go_wp2_with fail
          refine (parts_same (wpk_u (by omega) (by omega) (by omega) (by omega)) _).mono ?_
          rintro e w9 ⟨rfl, rfl⟩
          rw [wpk_parts (by omega) (by omega) (by omega) (by omega)]
          go_wp2_with fail
          refine ((len_does (σ := σ8) (p := m) (by rw [L8.out]; omega)).call (As := [memA m σ8]) (Bs := [rb p m obj g cs.length, gb g cs] ++ [refA x 0 MS.zero, rrb q x obj g' cs.length, gb g' cs]) S8.out).mono ?_
          rintro e w10 ⟨he, s10⟩
          rw [show ((σ8.log.length : Nat) : Int) = l + 2 by rw [L8.out, hl]; omega] at he
          subst he
          have S8 := Lib.hid s10
          clear s10
          go_wp2_with fail
          go_roundw
          case rel => exact ⟨k + 1, σ8, c, 0, by omega, by omega, by go_num, by first | rfl | go_num, rfl, by omega, by omega, by omega, by omega, N8.out, by rw [L8.out]; omega, S8.out⟩
          case measure => simp [intOf]; omega
        · go_wp2_with fail
          refine (mod_any (v := z) (n := 5) (by omega) (by omega) _).mono ?_
          rintro e w6 ⟨he, rfl⟩
          rw [Ht.out] at he
          subst he
          clear d1
          go_wp2_with fail
          refine ((rclaim_does 0 (wpk c 1) (wpk_u (by omega) (by omega) (by omega) (by omega)) Ho.out (by rw [L4.out]; omega)).call (Bs := [refA x 0 MS.zero, rrb q x obj g' cs.length, gb g' cs]) S5.out).mono ?_
          rintro e w7 ⟨he, s7⟩
          obtain ⟨y1, y2, y3⟩ := T_yes (how := 0) 0 (b01 c0 (by omega)) N4.out
          rw [y1] at he
          subst he
          rw [L4.out] at y3
          generalize σ4.turn 0 obj 0 (wpk c 1) = σ6 at s7 y2 y3
          have S7 := Lib.hid s7; have N6 := Lib.hid y2; have L6 := Lib.hid (show σ6.log.length = n + 2 from y3)
          clear s7 y1 y2 y3 S5 N4 L4
          clear σ4
          go_wp2_with fail
          refine ((rword_does 0 Ho.out (by rw [L6.out]; omega)).call (Bs := [refA x 0 MS.zero, rrb q x obj g' cs.length, gb g' cs]) S7.out).mono ?_
          rintro e w8 ⟨he, s8⟩
          rw [N6.out] at he
          subst he
          have hn8 : (σ6.put 0 1 (wordL obj)).num (wordL obj) = wpk (c + 1) 1 := N6.out
          have hl8 : (σ6.put 0 1 (wordL obj)).log.length = n + 3 := by rw [show (σ6.put 0 1 (wordL obj)).log.length = σ6.log.length + 1 by simp [MS.put], L6.out]
          generalize σ6.put 0 1 (wordL obj) = σ8 at s8 hn8 hl8
          have S8 := Lib.hid s8; have N8 := Lib.hid hn8; have L8 := Lib.hid hl8
          clear s8 hn8 hl8 N6 L6
          go_wp2_with fail
          refine (parts_same (wpk_u (by omega) (by omega) (by omega) (by omega)) _).mono ?_
          rintro e w9 ⟨rfl, rfl⟩
          rw [wpk_parts (by omega) (by omega) (by omega) (by omega)]
          go_wp2_with fail
          refine ((len_does (σ := σ8) (p := m) (by rw [L8.out]; omega)).call (As := [memA m σ8]) (Bs := [rb p m obj g cs.length, gb g cs] ++ [refA x 0 MS.zero, rrb q x obj g' cs.length, gb g' cs]) S8.out).mono ?_
          rintro e w10 ⟨he, s10⟩
          rw [show ((σ8.log.length : Nat) : Int) = l + 2 by rw [L8.out, hl]; omega] at he
          subst he
          have S8 := Lib.hid s10
          clear s10
          go_wp2_with fail
          go_roundw
          case rel => exact ⟨k + 1, σ8, (c + 1), 1, by omega, by omega, by go_num, by first | rfl | go_num, rfl, by omega, by omega, by omega, by omega, N8.out, by rw [L8.out]; omega, S8.out⟩
          case measure => simp [intOf]; omega
        · go_wp2_with fail
          refine (mod_any (v := z) (n := 5) (by omega) (by omega) _).mono ?_
          rintro e w6 ⟨he, rfl⟩
          rw [Ht.out] at he
          subst he
          clear d1
          go_wp2_with fail
          refine ((rclaim_does 0 (wpk c 1) (wpk_u (by omega) (by omega) (by omega) (by omega)) Ho.out (by rw [L4.out]; omega)).call (Bs := [refA x 0 MS.zero, rrb q x obj g' cs.length, gb g' cs]) S5.out).mono ?_
          rintro e w7 ⟨he, s7⟩
          obtain ⟨y1, y2, y3⟩ := T_yes (how := 0) 0 (b01 c0 (by omega)) N4.out
          rw [y1] at he
          subst he
          rw [L4.out] at y3
          generalize σ4.turn 0 obj 0 (wpk c 1) = σ6 at s7 y2 y3
          have S7 := Lib.hid s7; have N6 := Lib.hid y2; have L6 := Lib.hid (show σ6.log.length = n + 2 from y3)
          clear s7 y1 y2 y3 S5 N4 L4
          clear σ4
          go_wp2_with fail
          refine ((rword_does 0 Ho.out (by rw [L6.out]; omega)).call (Bs := [refA x 0 MS.zero, rrb q x obj g' cs.length, gb g' cs]) S7.out).mono ?_
          rintro e w8 ⟨he, s8⟩
          rw [N6.out] at he
          subst he
          have hn8 : (σ6.put 0 1 (wordL obj)).num (wordL obj) = wpk (c + 1) 1 := N6.out
          have hl8 : (σ6.put 0 1 (wordL obj)).log.length = n + 3 := by rw [show (σ6.put 0 1 (wordL obj)).log.length = σ6.log.length + 1 by simp [MS.put], L6.out]
          generalize σ6.put 0 1 (wordL obj) = σ8 at s8 hn8 hl8
          have S8 := Lib.hid s8; have N8 := Lib.hid hn8; have L8 := Lib.hid hl8
          clear s8 hn8 hl8 N6 L6
          go_wp2_with fail
          refine (parts_same (wpk_u (by omega) (by omega) (by omega) (by omega)) _).mono ?_
          rintro e w9 ⟨rfl, rfl⟩
          rw [wpk_parts (by omega) (by omega) (by omega) (by omega)]
          go_wp2_with fail
          refine ((len_does (σ := σ8) (p := m) (by rw [L8.out]; omega)).call (As := [memA m σ8]) (Bs := [rb p m obj g cs.length, gb g cs] ++ [refA x 0 MS.zero, rrb q x obj g' cs.length, gb g' cs]) S8.out).mono ?_
          rintro e w10 ⟨he, s10⟩
          rw [show ((σ8.log.length : Nat) : Int) = l + 2 by rw [L8.out, hl]; omega] at he
          subst he
          have S8 := Lib.hid s10
          clear s10
          go_wp2_with fail
          go_roundw
          case rel => exact ⟨k + 1, σ8, (c + 1), 1, by omega, by omega, by go_num, by first | rfl | go_num, rfl, by omega, by omega, by omega, by omega, N8.out, by rw [L8.out]; omega, S8.out⟩
          case measure => simp [intOf]; omega
      · rcases ht5 with rfl | rfl | rfl | rfl | rfl
        · go_wp2_with fail
          refine (mod_any (v := z) (n := 5) (by omega) (by omega) _).mono ?_
          rintro e w6 ⟨he, rfl⟩
          rw [Ht.out] at he
          subst he
          clear d1
          by_cases k4 : (k : Int) % 4 = 0
          · have k4' : ((k : Int) % 4 == 0) = true := by simp [k4]
            go_wp2_with fail
            refine ((rshut_does 0 (wpk c 2) (wpk_u (by omega) (by omega) (by omega) (by omega)) Ho.out (by rw [L4.out]; omega)).call (Bs := [refA x 0 MS.zero, rrb q x obj g' cs.length, gb g' cs]) S5.out).mono ?_
            rintro e w7 ⟨he, s7⟩
            obtain ⟨y1, y2⟩ := T_no (σ := σ4) (obj := obj) (how := 2) 0 (b22 c0 (by omega))
            rw [y1] at he
            subst he
            rw [y2] at s7
            have S7 := Lib.hid s7; have N6 := Lib.hid N4.out; have L6 := Lib.hid L4.out
            clear s7 y1 y2 S5 N4 L4
            go_wp2_with fail
            refine ((rword_does 0 Ho.out (by rw [L6.out]; omega)).call (Bs := [refA x 0 MS.zero, rrb q x obj g' cs.length, gb g' cs]) S7.out).mono ?_
            rintro e w8 ⟨he, s8⟩
            rw [N6.out] at he
            subst he
            have hn8 : (σ4.put 0 1 (wordL obj)).num (wordL obj) = wpk c 2 := N6.out
            have hl8 : (σ4.put 0 1 (wordL obj)).log.length = n + 2 := by rw [show (σ4.put 0 1 (wordL obj)).log.length = σ4.log.length + 1 by simp [MS.put], L6.out]
            generalize σ4.put 0 1 (wordL obj) = σ8 at s8 hn8 hl8
            have S8 := Lib.hid s8; have N8 := Lib.hid hn8; have L8 := Lib.hid hl8
            clear s8 hn8 hl8 N6 L6
            go_wp2_with fail
            refine (parts_same (wpk_u (by omega) (by omega) (by omega) (by omega)) _).mono ?_
            rintro e w9 ⟨rfl, rfl⟩
            rw [wpk_parts (by omega) (by omega) (by omega) (by omega)]
            go_wp2_with fail
            refine ((len_does (σ := σ8) (p := m) (by rw [L8.out]; omega)).call (As := [memA m σ8]) (Bs := [rb p m obj g cs.length, gb g cs] ++ [refA x 0 MS.zero, rrb q x obj g' cs.length, gb g' cs]) S8.out).mono ?_
            rintro e w10 ⟨he, s10⟩
            rw [show ((σ8.log.length : Nat) : Int) = l + 1 by rw [L8.out, hl]; omega] at he
            subst he
            have S8 := Lib.hid s10
            clear s10
            go_wp2_with fail
            refine ((len_does (σ := σ8) (p := m) (by rw [L8.out]; omega)).call (As := [memA m σ8]) (Bs := [rb p m obj g cs.length, gb g cs] ++ [refA x 0 MS.zero, rrb q x obj g' cs.length, gb g' cs]) S8.out).mono ?_
            rintro e w10 ⟨he, s10⟩
            rw [show ((σ8.log.length : Nat) : Int) = l + 1 by rw [L8.out, hl]; omega] at he
            subst he
            have S8 := Lib.hid s10
            clear s10
            go_wp2_with fail
            go_roundw
            case rel => exact ⟨k + 1, σ8, c, 2, by omega, by omega, by go_num, by first | rfl | go_num, rfl, by omega, by omega, by omega, by omega, N8.out, by rw [L8.out]; omega, S8.out⟩
            case measure => simp [intOf]; omega
          · have k4' : ((k : Int) % 4 == 0) = false := by simp [k4]
            have S7 := S5; have N6 := N4; have L6 := L4
            clear S5 N4 L4
            go_wp2_with fail
            refine ((rword_does 0 Ho.out (by rw [L6.out]; omega)).call (Bs := [refA x 0 MS.zero, rrb q x obj g' cs.length, gb g' cs]) S7.out).mono ?_
            rintro e w8 ⟨he, s8⟩
            rw [N6.out] at he
            subst he
            have hn8 : (σ4.put 0 1 (wordL obj)).num (wordL obj) = wpk c 2 := N6.out
            have hl8 : (σ4.put 0 1 (wordL obj)).log.length = n + 2 := by rw [show (σ4.put 0 1 (wordL obj)).log.length = σ4.log.length + 1 by simp [MS.put], L6.out]
            generalize σ4.put 0 1 (wordL obj) = σ8 at s8 hn8 hl8
            have S8 := Lib.hid s8; have N8 := Lib.hid hn8; have L8 := Lib.hid hl8
            clear s8 hn8 hl8 N6 L6
            go_wp2_with fail
            refine (parts_same (wpk_u (by omega) (by omega) (by omega) (by omega)) _).mono ?_
            rintro e w9 ⟨rfl, rfl⟩
            rw [wpk_parts (by omega) (by omega) (by omega) (by omega)]
            go_wp2_with fail
            refine ((len_does (σ := σ8) (p := m) (by rw [L8.out]; omega)).call (As := [memA m σ8]) (Bs := [rb p m obj g cs.length, gb g cs] ++ [refA x 0 MS.zero, rrb q x obj g' cs.length, gb g' cs]) S8.out).mono ?_
            rintro e w10 ⟨he, s10⟩
            rw [show ((σ8.log.length : Nat) : Int) = l + 1 by rw [L8.out, hl]; omega] at he
            subst he
            have S8 := Lib.hid s10
            clear s10
            go_wp2_with fail
            refine ((len_does (σ := σ8) (p := m) (by rw [L8.out]; omega)).call (As := [memA m σ8]) (Bs := [rb p m obj g cs.length, gb g cs] ++ [refA x 0 MS.zero, rrb q x obj g' cs.length, gb g' cs]) S8.out).mono ?_
            rintro e w10 ⟨he, s10⟩
            rw [show ((σ8.log.length : Nat) : Int) = l + 1 by rw [L8.out, hl]; omega] at he
            subst he
            have S8 := Lib.hid s10
            clear s10
            go_wp2_with fail
            go_roundw
            case rel => exact ⟨k + 1, σ8, c, 2, by omega, by omega, by go_num, by first | rfl | go_num, rfl, by omega, by omega, by omega, by omega, N8.out, by rw [L8.out]; omega, S8.out⟩
            case measure => simp [intOf]; omega
        · go_wp2_with fail
          refine (mod_any (v := z) (n := 5) (by omega) (by omega) _).mono ?_
          rintro e w6 ⟨he, rfl⟩
          rw [Ht.out] at he
          subst he
          clear d1
          go_wp2_with fail
          refine ((rrest_does 0 (wpk c 2) (wpk_u (by omega) (by omega) (by omega) (by omega)) Ho.out (by rw [L4.out]; omega)).call (Bs := [refA x 0 MS.zero, rrb q x obj g' cs.length, gb g' cs]) S5.out).mono ?_
          rintro e w7 ⟨he, s7⟩
          obtain ⟨y1, y2⟩ := T_no (σ := σ4) (obj := obj) (how := 1) 0 (b12 c0 (by omega))
          rw [y1] at he
          subst he
          rw [y2] at s7
          have S7 := Lib.hid s7; have N6 := Lib.hid N4.out; have L6 := Lib.hid L4.out
          clear s7 y1 y2 S5 N4 L4
          go_wp2_with fail
          refine ((rword_does 0 Ho.out (by rw [L6.out]; omega)).call (Bs := [refA x 0 MS.zero, rrb q x obj g' cs.length, gb g' cs]) S7.out).mono ?_
          rintro e w8 ⟨he, s8⟩
          rw [N6.out] at he
          subst he
          have hn8 : (σ4.put 0 1 (wordL obj)).num (wordL obj) = wpk c 2 := N6.out
          have hl8 : (σ4.put 0 1 (wordL obj)).log.length = n + 2 := by rw [show (σ4.put 0 1 (wordL obj)).log.length = σ4.log.length + 1 by simp [MS.put], L6.out]
          generalize σ4.put 0 1 (wordL obj) = σ8 at s8 hn8 hl8
          have S8 := Lib.hid s8; have N8 := Lib.hid hn8; have L8 := Lib.hid hl8
          clear s8 hn8 hl8 N6 L6
          go_wp2_with fail
          refine (parts_same (wpk_u (by omega) (by omega) (by omega) (by omega)) _).mono ?_
          rintro e w9 ⟨rfl, rfl⟩
          rw [wpk_parts (by omega) (by omega) (by omega) (by omega)]
          go_wp2_with fail
          refine ((len_does (σ := σ8) (p := m) (by rw [L8.out]; omega)).call (As := [memA m σ8]) (Bs := [rb p m obj g cs.length, gb g cs] ++ [refA x 0 MS.zero, rrb q x obj g' cs.length, gb g' cs]) S8.out).mono ?_
          rintro e w10 ⟨he, s10⟩
          rw [show ((σ8.log.length : Nat) : Int) = l + 1 by rw [L8.out, hl]; omega] at he
          subst he
          have S8 := Lib.hid s10
          clear s10
          go_wp2_with fail
          refine ((len_does (σ := σ8) (p := m) (by rw [L8.out]; omega)).call (As := [memA m σ8]) (Bs := [rb p m obj g cs.length, gb g cs] ++ [refA x 0 MS.zero, rrb q x obj g' cs.length, gb g' cs]) S8.out).mono ?_
          rintro e w10 ⟨he, s10⟩
          rw [show ((σ8.log.length : Nat) : Int) = l + 1 by rw [L8.out, hl]; omega] at he
          subst he
          have S8 := Lib.hid s10
          clear s10
          go_wp2_with fail
          go_roundw
          case rel => exact ⟨k + 1, σ8, c, 2, by omega, by omega, by go_num, by first | rfl | go_num, rfl, by omega, by omega, by omega, by omega, N8.out, by rw [L8.out]; omega, S8.out⟩
          case measure => simp [intOf]; omega
        · go_wp2_with fail
          refine (mod_any (v := z) (n := 5) (by omega) (by omega) _).mono ?_
          rintro e w6 ⟨he, rfl⟩
          rw [Ht.out] at he
          subst he
          clear d1
          go_wp2_with fail
          refine ((rrest_does 0 (wpk c 2) (wpk_u (by omega) (by omega) (by omega) (by omega)) Ho.out (by rw [L4.out]; omega)).call (Bs := [refA x 0 MS.zero, rrb q x obj g' cs.length, gb g' cs]) S5.out).mono ?_
          rintro e w7 ⟨he, s7⟩
          obtain ⟨y1, y2⟩ := T_no (σ := σ4) (obj := obj) (how := 1) 0 (b12 c0 (by omega))
          rw [y1] at he
          subst he
          rw [y2] at s7
          have S7 := Lib.hid s7; have N6 := Lib.hid N4.out; have L6 := Lib.hid L4.out
          clear s7 y1 y2 S5 N4 L4
          go_wp2_with fail
          refine ((rword_does 0 Ho.out (by rw [L6.out]; omega)).call (Bs := [refA x 0 MS.zero, rrb q x obj g' cs.length, gb g' cs]) S7.out).mono ?_
          rintro e w8 ⟨he, s8⟩
          rw [N6.out] at he
          subst he
          have hn8 : (σ4.put 0 1 (wordL obj)).num (wordL obj) = wpk c 2 := N6.out
          have hl8 : (σ4.put 0 1 (wordL obj)).log.length = n + 2 := by rw [show (σ4.put 0 1 (wordL obj)).log.length = σ4.log.length + 1 by simp [MS.put], L6.out]
          generalize σ4.put 0 1 (wordL obj) = σ8 at s8 hn8 hl8
          have S8 := Lib.hid s8; have N8 := Lib.hid hn8; have L8 := Lib.hid hl8
          clear s8 hn8 hl8 N6 L6
          go_wp2_with fail
          refine (parts_same (wpk_u (by omega) (by omega) (by omega) (by omega)) _).mono ?_
          rintro e w9 ⟨rfl, rfl⟩
          rw [wpk_parts (by omega) (by omega) (by omega) (by omega)]
          go_wp2_with fail
          refine ((len_does (σ := σ8) (p := m) (by rw [L8.out]; omega)).call (As := [memA m σ8]) (Bs := [rb p m obj g cs.length, gb g cs] ++ [refA x 0 MS.zero, rrb q x obj g' cs.length, gb g' cs]) S8.out).mono ?_
          rintro e w10 ⟨he, s10⟩
          rw [show ((σ8.log.length : Nat) : Int) = l + 1 by rw [L8.out, hl]; omega] at he
          subst he
          have S8 := Lib.hid s10
          clear s10
          go_wp2_with fail
          refine ((len_does (σ := σ8) (p := m) (by rw [L8.out]; omega)).call (As := [memA m σ8]) (Bs := [rb p m obj g cs.length, gb g cs] ++ [refA x 0 MS.zero, rrb q x obj g' cs.length, gb g' cs]) S8.out).mono ?_
          rintro e w10 ⟨he, s10⟩
          rw [show ((σ8.log.length : Nat) : Int) = l + 1 by rw [L8.out, hl]; omega] at he
          subst he
          have S8 := Lib.hid s10
          clear s10
          go_wp2_with fail
          go_roundw
          case rel => exact ⟨k + 1, σ8, c, 2, by omega, by omega, by go_num, by first | rfl | go_num, rfl, by omega, by omega, by omega, by omega, N8.out, by rw [L8.out]; omega, S8.out⟩
          case measure => simp [intOf]; omega
        · go_wp2_with fail
          refine (mod_any (v := z) (n := 5) (by omega) (by omega) _).mono ?_
          rintro e w6 ⟨he, rfl⟩
          rw [Ht.out] at he
          subst he
          clear d1
          go_wp2_with fail
          refine ((rclaim_does 0 (wpk c 2) (wpk_u (by omega) (by omega) (by omega) (by omega)) Ho.out (by rw [L4.out]; omega)).call (Bs := [refA x 0 MS.zero, rrb q x obj g' cs.length, gb g' cs]) S5.out).mono ?_
          rintro e w7 ⟨he, s7⟩
          obtain ⟨y1, y2⟩ := T_no (σ := σ4) (obj := obj) (how := 0) 0 (b02 c0 (by omega))
          rw [y1] at he
          subst he
          rw [y2] at s7
          have S7 := Lib.hid s7; have N6 := Lib.hid N4.out; have L6 := Lib.hid L4.out
          clear s7 y1 y2 S5 N4 L4
          go_wp2_with fail
          refine ((rword_does 0 Ho.out (by rw [L6.out]; omega)).call (Bs := [refA x 0 MS.zero, rrb q x obj g' cs.length, gb g' cs]) S7.out).mono ?_
          rintro e w8 ⟨he, s8⟩
          rw [N6.out] at he
          subst he
          have hn8 : (σ4.put 0 1 (wordL obj)).num (wordL obj) = wpk c 2 := N6.out
          have hl8 : (σ4.put 0 1 (wordL obj)).log.length = n + 2 := by rw [show (σ4.put 0 1 (wordL obj)).log.length = σ4.log.length + 1 by simp [MS.put], L6.out]
          generalize σ4.put 0 1 (wordL obj) = σ8 at s8 hn8 hl8
          have S8 := Lib.hid s8; have N8 := Lib.hid hn8; have L8 := Lib.hid hl8
          clear s8 hn8 hl8 N6 L6
          go_wp2_with fail
          refine (parts_same (wpk_u (by omega) (by omega) (by omega) (by omega)) _).mono ?_
          rintro e w9 ⟨rfl, rfl⟩
          rw [wpk_parts (by omega) (by omega) (by omega) (by omega)]
          go_wp2_with fail
          refine ((len_does (σ := σ8) (p := m) (by rw [L8.out]; omega)).call (As := [memA m σ8]) (Bs := [rb p m obj g cs.length, gb g cs] ++ [refA x 0 MS.zero, rrb q x obj g' cs.length, gb g' cs]) S8.out).mono ?_
          rintro e w10 ⟨he, s10⟩
          rw [show ((σ8.log.length : Nat) : Int) = l + 1 by rw [L8.out, hl]; omega] at he
          subst he
          have S8 := Lib.hid s10
          clear s10
          go_wp2_with fail
          refine ((len_does (σ := σ8) (p := m) (by rw [L8.out]; omega)).call (As := [memA m σ8]) (Bs := [rb p m obj g cs.length, gb g cs] ++ [refA x 0 MS.zero, rrb q x obj g' cs.length, gb g' cs]) S8.out).mono ?_
          rintro e w10 ⟨he, s10⟩
          rw [show ((σ8.log.length : Nat) : Int) = l + 1 by rw [L8.out, hl]; omega] at he
          subst he
          have S8 := Lib.hid s10
          clear s10
          go_wp2_with fail
          go_roundw
          case rel => exact ⟨k + 1, σ8, c, 2, by omega, by omega, by go_num, by first | rfl | go_num, rfl, by omega, by omega, by omega, by omega, N8.out, by rw [L8.out]; omega, S8.out⟩
          case measure => simp [intOf]; omega
        · go_wp2_with fail
          refine (mod_any (v := z) (n := 5) (by omega) (by omega) _).mono ?_
          rintro e w6 ⟨he, rfl⟩
          rw [Ht.out] at he
          subst he
          clear d1
          go_wp2_with fail
          refine ((rclaim_does 0 (wpk c 2) (wpk_u (by omega) (by omega) (by omega) (by omega)) Ho.out (by rw [L4.out]; omega)).call (Bs := [refA x 0 MS.zero, rrb q x obj g' cs.length, gb g' cs]) S5.out).mono ?_
          rintro e w7 ⟨he, s7⟩
          obtain ⟨y1, y2⟩ := T_no (σ := σ4) (obj := obj) (how := 0) 0 (b02 c0 (by omega))
          rw [y1] at he
          subst he
          rw [y2] at s7
          have S7 := Lib.hid s7; have N6 := Lib.hid N4.out; have L6 := Lib.hid L4.out
          clear s7 y1 y2 S5 N4 L4
          go_wp2_with fail
          refine ((rword_does 0 Ho.out (by rw [L6.out]; omega)).call (Bs := [refA x 0 MS.zero, rrb q x obj g' cs.length, gb g' cs]) S7.out).mono ?_
          rintro e w8 ⟨he, s8⟩
          rw [N6.out] at he
          subst he
          have hn8 : (σ4.put 0 1 (wordL obj)).num (wordL obj) = wpk c 2 := N6.out
          have hl8 : (σ4.put 0 1 (wordL obj)).log.length = n + 2 := by rw [show (σ4.put 0 1 (wordL obj)).log.length = σ4.log.length + 1 by simp [MS.put], L6.out]
          generalize σ4.put 0 1 (wordL obj) = σ8 at s8 hn8 hl8
          have S8 := Lib.hid s8; have N8 := Lib.hid hn8; have L8 := Lib.hid hl8
          clear s8 hn8 hl8 N6 L6
          go_wp2_with fail
          refine (parts_same (wpk_u (by omega) (by omega) (by omega) (by omega)) _).mono ?_
          rintro e w9 ⟨rfl, rfl⟩
          rw [wpk_parts (by omega) (by omega) (by omega) (by omega)]
          go_wp2_with fail
          refine ((len_does (σ := σ8) (p := m) (by rw [L8.out]; omega)).call (As := [memA m σ8]) (Bs := [rb p m obj g cs.length, gb g cs] ++ [refA x 0 MS.zero, rrb q x obj g' cs.length, gb g' cs]) S8.out).mono ?_
          rintro e w10 ⟨he, s10⟩
          rw [show ((σ8.log.length : Nat) : Int) = l + 1 by rw [L8.out, hl]; omega] at he
          subst he
          have S8 := Lib.hid s10
          clear s10
          go_wp2_with fail
          refine ((len_does (σ := σ8) (p := m) (by rw [L8.out]; omega)).call (As := [memA m σ8]) (Bs := [rb p m obj g cs.length, gb g cs] ++ [refA x 0 MS.zero, rrb q x obj g' cs.length, gb g' cs]) S8.out).mono ?_
          rintro e w10 ⟨he, s10⟩
          rw [show ((σ8.log.length : Nat) : Int) = l + 1 by rw [L8.out, hl]; omega] at he
          subst he
          have S8 := Lib.hid s10
          clear s10
          go_wp2_with fail
          go_roundw
          case rel => exact ⟨k + 1, σ8, c, 2, by omega, by omega, by go_num, by first | rfl | go_num, rfl, by omega, by omega, by omega, by omega, N8.out, by rw [L8.out]; omega, S8.out⟩
          case measure => simp [intOf]; omega
    · have i1 : ¬ ((k : Int) < (N : Int) ∧ (k : Int) < 60) := by omega
      by_cases n0 : (k : Int) < (N : Int)
      · have n1 : ¬ (k : Int) < 60 := by omega
        go_wp2
        go_ret
        exact ⟨rfl, Sr.out.below⟩
      · go_wp2
        go_ret
        exact ⟨rfl, Sr.out.below⟩
end Go.Proofs.Ytjipjhmcpjffcad
