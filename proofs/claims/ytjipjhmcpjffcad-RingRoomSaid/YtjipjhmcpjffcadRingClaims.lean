/- RingClaims: of all who saw one word just the first one claims its place; each other one's swap is not done; the count is one more. -/
import Derived.Test.YtjipjhmcpjffcadRingM
set_option linter.unusedSimpArgs false
set_option linter.unusedVariables false
set_option maxRecDepth 20000
namespace Go.Proofs.Ytjipjhmcpjffcad
open Go Go.RowKit Go.Maps

/-- The word behind k claims. -/
def Ws (k : Nat) : Int := if k = 0 then 0 else wpk k 1
theorem Ws_u {k : Nat} (h : k ≤ 60) : U64 (Ws k) := by unfold Ws U64 wpk; split <;> omega
theorem Ws_C {k : Nat} (h : k ≤ 60) : wC (Ws k) = k := by unfold Ws wC wpk; split <;> omega
theorem Ws_S {k : Nat} (h : k ≤ 60) : wS (Ws k) = if k = 0 then 0 else 1 := by unfold Ws wS wpk; split <;> omega
theorem Ws_S2 {k : Nat} (h : k ≤ 60) : wS (Ws k) < 2 := by rw [Ws_S h]; split <;> omega
theorem Ws_B {k : Nat} (h : k ≤ 60) : tB 0 (Ws k) = true := decide_eq_true (by rw [Ws_C h]; exact ⟨Ws_S2 h, by omega⟩)
theorem Ws_W {k : Nat} (h : k ≤ 60) : tW 0 (Ws k) = Ws (k + 1) := by
  have h1 : tW 0 (Ws k) = wpk (wC (Ws k) + 1) 1 := if_pos (Ws_B h)
  rw [h1, Ws_C h]
  unfold Ws
  rw [if_neg (by omega)]
  simp
theorem Ws_ne {k : Nat} (h : k ≤ 60) : Ws (k + 1) ≠ Ws k := by
  intro e
  have := congrArg wC e
  by_cases a : k = 0
  · subst a; revert e; decide
  · have h1 : wC (Ws (k + 1)) = ((k + 1 : Nat) : Int) := by unfold Ws wC wpk; rw [if_neg (by omega)]; omega
    rw [h1, Ws_C h] at this
    omega
theorem parts_Ws0 : partsR (Ws 0) = .tuple #[.int .u64 0, .int .i64 0, .bool true] := by
  rw [parts_is (by decide)]; rfl
theorem parts_Ws {k : Nat} (h : k ≤ 60) (h0 : 0 < k) : partsR (Ws k) = .tuple #[.int .u64 k, .int .i64 1, .bool true] := by
  rw [parts_is (by have := Ws_S2 h; omega), Ws_C h, Ws_S h, if_neg (by omega)]
theorem turned_yes {σ : MS} {obj x : Int} {how : Nat} (hb : tB how x = true) (hn : σ.num (wordL obj) = x) : σ.turned obj how x = true := by simp [MS.turned, hb, hn]
theorem turned_no {σ : MS} {obj x : Int} {how : Nat} (hn : σ.num (wordL obj) ≠ x) : σ.turned obj how x = false := by simp [MS.turned, hn]
theorem turn_yes {σ : MS} {obj x : Int} {how : Nat} (who : Int) (hb : tB how x = true) (hn : σ.num (wordL obj) = x) : (σ.turn who obj how x).num (wordL obj) = tW how x ∧ (σ.turn who obj how x).log.length = σ.log.length + 1 := by
  unfold MS.turn MS.swap
  rw [if_pos hb, if_pos hn]
  simp [MS.set, MS.put]
theorem turn_no {σ : MS} {obj x : Int} {how : Nat} (who : Int) (hn : σ.num (wordL obj) ≠ x) : (σ.turn who obj how x).num = σ.num ∧ (σ.turn who obj how x).log.length ≤ σ.log.length + 1 := by
  unfold MS.turn MS.swap
  rw [if_neg hn]
  split <;> simp [MS.put]

set_option maxHeartbeats 8000000 in
theorem ringClaims_row {w : World} (obj most want : Int) (v : Value) (L : List Int) (ho : I64 obj) (_ : I64 most) (hw : U64 want) (_ : ∀ n, n ∈ L → I64 n) (h : NumsAt .i64 w v L) :
    Calls Try.prog 4 #[.int .i64 obj, .int .i64 most, .int .u64 want, v] w fun e w' => e = .returned (.bool true) ∧ Below w.heap.size w w' := by
  obtain ⟨oa, cp, rfl, hlc, hcm, hel⟩ := h.form
  obtain ⟨N, hN⟩ : ∃ N, N = L.length := ⟨_, rfl⟩
  rw [← hN] at hlc ⊢
  obtain ⟨w0, w1⟩ := hw
  obtain ⟨M, hM⟩ : ∃ M : Nat, want % 20 = (M : Int) := ⟨(want % 20).toNat, by omega⟩
  have hM2 : M < 20 := by omega
  have Hel := Lib.hid hel; have HN := Lib.hid hN; have S0 := Lib.hid (Scope.empty w); have Ho := Lib.hid ho
  clear hel hN h ho
  go_enter Try.func4, Try.ntmps4
  go_wp2_with fail
  refine (made17_scope S0.out obj most).mono ?_
  rintro e w1 ⟨m, p, g, q, x, g', cs, hl, -, rfl, s1⟩
  have hb := cl8_b (if 0 < mod most 5 then mod most 10 else most)
  have l8 : 1 ≤ cs.length ∧ cs.length ≤ 8 := by rw [hl]; exact hb
  have S1 := Lib.hid s1; have L8 := Lib.hid l8
  clear s1 hb hl l8
  go_wp2_with fail
  refine (awake17_scope S1.out).mono ?_
  rintro e w2 ⟨rfl, s2⟩
  have S2 := Lib.hid (show Scope [] w w2 ([memA m (MS.zero), rb p m obj g cs.length, gb g cs] ++ [refA x 0 MS.zero, rrb q x obj g' cs.length, gb g' cs]) from by simpa using s2)
  clear s2 S1
  go_wp2_with fail
  go_loopw [12] (fun i wr => ∃ (k : Nat) (σ : MS), k ≤ M ∧ i = .int .u64 k ∧ σ.num (wordL obj) = Ws k ∧ σ.log.length ≤ 2 * k ∧ Scope [] w wr ([memA m (σ), rb p m obj g cs.length, gb g cs] ++ [refA x 0 MS.zero, rrb q x obj g' cs.length, gb g' cs])) (fun i _ => 20 - (intOf i).toNat)
  case atStart => exact ⟨0, MS.zero, by omega, rfl, rfl, by simp [MS.zero], S2.out⟩
  case round =>
    obtain ⟨k, σ, hk, rfl, hnum, hlg, hs⟩ := hrel
    have Sr := Lib.hid hs; have Hn := Lib.hid hnum
    clear hs S2 hnum
    by_cases hlt : k < M
    · have i1 : (k : Int) < want % 20 := by omega
      have i0 : (0 : Int) ≤ (k : Int) := by omega
      go_wp2_with fail
      refine ((rword_does 0 Ho.out (by omega)).call (Bs := [refA x 0 MS.zero, rrb q x obj g' cs.length, gb g' cs]) Sr.out).mono ?_
      rintro e w4 ⟨he, s4⟩
      rw [Hn.out] at he
      subst he
      have S4 := Lib.hid s4
      clear s4
      go_wp2_with fail
      refine ((rclaim_does 0 (Ws k) (Ws_u (by omega)) Ho.out (by simp [MS.put]; omega)).call (Bs := [refA x 0 MS.zero, rrb q x obj g' cs.length, gb g' cs]) S4.out).mono ?_
      rintro e w5 ⟨he, s5⟩
      have hn4 : (σ.put 0 1 (wordL obj)).num (wordL obj) = Ws k := Hn.out
      rw [turned_yes (Ws_B (by omega)) hn4] at he
      subst he
      have ty := turn_yes 0 (Ws_B (by omega)) hn4
      rw [Ws_W (by omega)] at ty
      have Ty := Lib.hid ty
      have S5 := Lib.hid s5
      clear s5 hn4 ty
      go_wp2_with fail
      go_roundw
      case rel => exact ⟨k + 1, _, by omega, by go_num, Ty.out.1, by rw [Ty.out.2]; simp [MS.put]; omega, S5.out⟩
      case measure => simp [intOf]; omega
    · have e0 : k = M := by omega
      subst e0
      have i1 : ¬ (k : Int) < want % 20 := by omega
      go_wp2_with fail
      refine ((rword_does 1 Ho.out (by omega)).call (Bs := [refA x 0 MS.zero, rrb q x obj g' cs.length, gb g' cs]) Sr.out).mono ?_
      rintro e w4 ⟨he, s4⟩
      rw [Hn.out] at he
      subst he
      have hn4 : (σ.put 1 1 (wordL obj)).num (wordL obj) = Ws k := Hn.out
      have hl4 : (σ.put 1 1 (wordL obj)).log.length ≤ 41 := by simp [MS.put]; omega
      generalize σ.put 1 1 (wordL obj) = σ4 at s4 hn4 hl4
      have S4 := Lib.hid s4; have N4 := Lib.hid hn4
      clear s4 hn4 Sr Hn i1 hlt hlg hk
      clear σ
      go_wp2_with fail
      go_loopw [14] (fun i wr => ∃ (j : Nat) (σ : MS), j ≤ N ∧ j ≤ 40 ∧ i = .int .i64 j ∧ σ.num (wordL obj) = (if j = 0 then Ws k else Ws (k + 1)) ∧ σ.log.length ≤ 41 + j ∧ Scope [] w wr ([memA m (σ), rb p m obj g cs.length, gb g cs] ++ [refA x 0 MS.zero, rrb q x obj g' cs.length, gb g' cs])) (fun i _ => 40 - (intOf i).toNat)
      case atStart => exact ⟨0, σ4, by omega, by omega, rfl, by rw [N4.out]; rfl, by omega, S4.out⟩
      case round =>
        obtain ⟨j, σ, hj, hj2, rfl, hnum, hlg, hs⟩ := hrel
        have Sr := Lib.hid hs; have Hn := Lib.hid hnum
        clear hs S4 hnum N4
        by_cases hlt : j < N ∧ j < 40
        · obtain ⟨hlt, h40⟩ := hlt
          obtain ⟨z, hz⟩ : ∃ z, L[j]? = some z := ⟨_, List.getElem?_eq_getElem (by rw [← HN.out]; exact hlt)⟩
          obtain ⟨gg, off, rfl, hc⟩ := Hel.out j z hz
          have d0 := hc wr Sr.out.1
          clear hc hz
          have i1 : (j : Int) < (N : Int) := by omega
          have i0 : (0 : Int) ≤ (j : Int) := by omega
          go_wp2_with fail
          refine ((rclaim_does z (Ws k) (Ws_u (by omega)) Ho.out (by omega)).call (Bs := [refA x 0 MS.zero, rrb q x obj g' cs.length, gb g' cs]) Sr.out).mono ?_
          rintro e w5 ⟨he, s5⟩
          by_cases j0 : j = 0
          · subst j0
            have hn4 : σ.num (wordL obj) = Ws k := Hn.out
            rw [turned_yes (Ws_B (by omega)) hn4] at he
            subst he
            have ty := turn_yes z (Ws_B (by omega)) hn4
            rw [Ws_W (by omega)] at ty
            have Ty := Lib.hid ty
            have S5 := Lib.hid s5
            clear s5 hn4 ty d0
            go_wp2_with fail
            go_roundw
            case rel => exact ⟨1, _, by omega, by omega, by go_num, by rw [if_neg (by omega)]; exact Ty.out.1, by rw [Ty.out.2]; omega, S5.out⟩
            case measure => simp [intOf]
          · have hj0 : ((j : Int) == 0) = false := by simp; omega
            have hn4 : σ.num (wordL obj) ≠ Ws k := by rw [Hn.out, if_neg j0]; exact Ws_ne (by omega)
            rw [turned_no hn4] at he
            subst he
            have Ty := Lib.hid (turn_no (how := 0) z hn4)
            have S5 := Lib.hid s5
            clear s5 hn4 d0
            go_wp2_with fail
            go_roundw
            case rel => exact ⟨j + 1, _, by omega, by omega, by go_num, by rw [if_neg (by omega), Ty.out.1, Hn.out, if_neg j0], by have := Ty.out.2; omega, S5.out⟩
            case measure => simp [intOf]; omega
        · have i1 : ¬ ((j : Int) < (N : Int) ∧ (j : Int) < 40) := by omega
          obtain ⟨T, hT, hT1, hT2⟩ : ∃ T : Nat, σ.num (wordL obj) = Ws T ∧ T ≤ 21 ∧ T = k + (if 0 < N then 1 else 0) := by
            by_cases n0 : 0 < N
            · exact ⟨k + 1, by rw [Hn.out, if_neg (by omega)], by omega, by rw [if_pos n0]⟩
            · exact ⟨k, by rw [Hn.out, if_pos (by omega)], by omega, by rw [if_neg n0]; rfl⟩
          have HT := Lib.hid hT
          clear hT
          by_cases T0 : T = 0
          · have n0 : N = 0 := by rcases Nat.eq_zero_or_pos N with a | a; exact a; rw [if_pos a] at hT2; omega
            have k0 : k = 0 := by omega
            subst T0
            clear hT2
            have n0' : ¬ (j : Int) < (N : Int) := by omega
            go_wp2_with fail
            all_goals
              refine ((rword_does 1 Ho.out (by omega)).call (Bs := [refA x 0 MS.zero, rrb q x obj g' cs.length, gb g' cs]) Sr.out).mono ?_
              rintro e w6 ⟨he, s6⟩
              rw [HT.out] at he
              subst he
              have S6 := Lib.hid s6
              clear s6
              go_wp2_with fail
              refine (parts_same (Ws_u (by omega)) _).mono ?_
              rintro e w7 ⟨rfl, rfl⟩
              rw [parts_Ws0]
              go_wp2
              go_ret
              exact ⟨rfl, S6.out.below⟩
          · by_cases n0 : 0 < N
            · have T1 : T = k + 1 := by rw [if_pos n0] at hT2; exact hT2
              subst T1
              clear hT2
              go_wp2_with fail
              all_goals
                refine ((rword_does 1 Ho.out (by omega)).call (Bs := [refA x 0 MS.zero, rrb q x obj g' cs.length, gb g' cs]) Sr.out).mono ?_
                rintro e w6 ⟨he, s6⟩
                rw [HT.out] at he
                subst he
                have S6 := Lib.hid s6
                clear s6
                go_wp2_with fail
                refine (parts_same (Ws_u (by omega)) _).mono ?_
                rintro e w7 ⟨rfl, rfl⟩
                rw [parts_Ws (by omega) (by omega)]
                go_wp2
                go_ret
                exact ⟨rfl, S6.out.below⟩
            · have T1 : T = k := by rw [if_neg n0] at hT2; exact hT2
              subst T1
              clear hT2
              go_wp2_with fail
              all_goals
                refine ((rword_does 1 Ho.out (by omega)).call (Bs := [refA x 0 MS.zero, rrb q x obj g' cs.length, gb g' cs]) Sr.out).mono ?_
                rintro e w6 ⟨he, s6⟩
                rw [HT.out] at he
                subst he
                have S6 := Lib.hid s6
                clear s6
                go_wp2_with fail
                refine (parts_same (Ws_u (by omega)) _).mono ?_
                rintro e w7 ⟨rfl, rfl⟩
                rw [parts_Ws (by omega) (by omega)]
                go_wp2
                go_ret
                exact ⟨rfl, S6.out.below⟩
end Go.Proofs.Ytjipjhmcpjffcad
