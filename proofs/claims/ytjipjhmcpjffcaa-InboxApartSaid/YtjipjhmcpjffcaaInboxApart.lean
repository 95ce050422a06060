/- InboxApart: two have nothing in common. -/
import Derived.Test.YtjipjhmcpjffcaaInboxPlays
set_option linter.unusedSimpArgs false
set_option linter.unusedVariables false
namespace Go.Proofs.Ytjipjhmcpjffcaa
open Go Go.RowKit Go.Maps

section
variable {S : List Nat} {w0 w : World} {A B C D : HA} {Es : List HA} {q x q' x' : Nat} {sh sh' : Int}
theorem Scope.swap22 (h : Scope S w0 w (A :: B :: C :: D :: Es)) : Scope S w0 w (C :: D :: A :: B :: Es) := Scope.swap (As := [A, B]) (Bs := [C, D]) (Cs := Es) h
theorem Scope.up13' {n1 n2 k1 k2 : Nat} {σ τ : MS} {nx ny : Int → Int} (h : Scope S w0 w (A :: rinA q x n1 n1 sh σ nx :: C :: rinA q' x' n2 n2 sh' τ ny :: Es)) (h1 : n1 ≤ k1) (h2 : n2 ≤ k2) : Scope S w0 w (A :: rinA q x k1 k1 sh σ nx :: C :: rinA q' x' k2 k2 sh' τ ny :: Es) := (Scope.rin_up (Scope.swap22 (Scope.rin_up h h1)) h2).swap22
end

set_option maxHeartbeats 8000000 in
set_option maxRecDepth 20000 in
theorem inboxApart_row {w : World} (a c : Int) (v1 : Value) (L : List Us) (v2 : Value) (M : List Us) (_ : I64 a) (_ : I64 c) (_ : True) (hL : UsesAt w v1 L) (_ : True) (hM : UsesAt w v2 M) :
    Calls Try.prog 8 #[.int .i64 a, .int .i64 c, v1, v2] w fun e w' => e = .returned (.bool true) ∧ Below w.heap.size w w' := by
  obtain ⟨oa, cp1, rfl, hlc1, hcm1, hel1⟩ := hL.form
  obtain ⟨ob, cp2, rfl, hlc2, hcm2, hel2⟩ := hM.form
  obtain ⟨n1, hn1⟩ : ∃ n, n = L.length := ⟨_, rfl⟩
  obtain ⟨n2, hn2⟩ : ∃ n, n = M.length := ⟨_, rfl⟩
  rw [← hn1] at hlc1 ⊢
  rw [← hn2] at hlc2 ⊢
  have El1 := Lib.hid hel1; have El2 := Lib.hid hel2; have Hn1 := Lib.hid hn1; have Hn2 := Lib.hid hn2; have S0 := Lib.hid (Scope.empty w)
  clear hel1 hel2 hn1 hn2 hL hM
  go_enter Try.func8, Try.ntmps8
  go_wp2_with fail
  refine (made18_scope S0.out a).mono ?_
  rintro e w1 ⟨m, p, b, q, x, rfl, s1⟩
  have S1 := Lib.hid s1
  clear s1
  go_wp2_with fail
  refine (made18_scope S1.out c).mono ?_
  rintro e w2 ⟨m', p', b', q', x', rfl, s2⟩
  have S2 := Lib.hid s2.swap22
  clear s2 S1
  generalize cl a = sh at S2 ⊢
  generalize cl c = sh' at S2 ⊢
  go_wp2_with fail
  refine (awake18_scope S2.out).mono ?_
  rintro e w3 ⟨rfl, s3⟩
  have S3 := Lib.hid s3
  clear s3 S2
  go_wp2_with fail
  go_loopw [15] (fun i wr => ∃ (k : Nat) (σ τ : MS) (nx ny : Int → Int), k ≤ 40 ∧ i = .int .i64 k ∧ σ.log.length ≤ 2 * k ∧ τ.log.length ≤ 2 * k ∧ Scope [] w wr [inA p m b sh σ nx, rinA q x (2 * k) (2 * k) sh σ nx, inA p' m' b' sh' τ ny, rinA q' x' (2 * k) (2 * k) sh' τ ny]) (fun i _ => 40 - (intOf i).toNat)
  case atStart => exact ⟨0, MS.zero, MS.zero, fun _ => 0, fun _ => 0, by omega, rfl, by simp [MS.zero], by simp [MS.zero], S3.out⟩
  case round =>
    obtain ⟨k, σ, τ, nx, ny, hk, rfl, hlg, hlg', hs⟩ := hrel
    have Sr := Lib.hid hs
    clear hs S3
    by_cases h40 : k < 40
    · have i40 : (k : Int) < 40 := by omega
      by_cases h1 : k < n1
      · by_cases h2 : k < n2
        · obtain ⟨u, hu⟩ : ∃ u, L[k]? = some u := ⟨_, List.getElem?_eq_getElem (by rw [← Hn1.out]; exact h1)⟩
          obtain ⟨hw, g, off, rfl, hc⟩ := El1.out k u hu
          have Hw := Lib.hid hw; have Hc := Lib.hid hc
          have j1 : (k : Int) < (n1 : Int) := by omega
          clear hu hw hc
          obtain ⟨u2, hu2⟩ : ∃ u, M[k]? = some u := ⟨_, List.getElem?_eq_getElem (by rw [← Hn2.out]; exact h2)⟩
          obtain ⟨hw2, g2, off2, rfl, hc2⟩ := El2.out k u2 hu2
          have Hw2 := Lib.hid hw2; have Hc2 := Lib.hid hc2
          have j2 : (k : Int) < (n2 : Int) := by omega
          clear hu2 hw2 hc2
          have i0 : (0 : Int) ≤ (k : Int) := by omega
          obtain ⟨d0, d1, d2, d3, d4, d5, d6, d7, d8⟩ := Hc.out _ Sr.out.1
          go_wp2_with fail
          refine (step18_any Sr.out Hw.out (by omega) (by omega)).mono ?_
          rintro e v1 ⟨rfl, σ', nx', hlg1, s1⟩
          have Q1 := Lib.hid s1
          clear s1
          clear d0 d1 d2 d3 d4 d5 d6 d7 d8
          obtain ⟨f0, f1, f2, f3, f4, f5, f6, f7, f8⟩ := Hc2.out _ Q1.out.1
          go_wp2_with fail
          refine (step18_any (Q1.out.swap22) Hw2.out (by omega) (by omega)).mono ?_
          rintro e v2 ⟨rfl, τ', ny', hlg2, s2⟩
          have Q2 := Lib.hid s2.swap22
          clear s2
          clear f0 f1 f2 f3 f4 f5 f6 f7 f8
          go_wp2
          go_roundw
          case rel => exact ⟨k + 1, σ', τ', nx', ny', by omega, by go_num, by omega, by omega, Q2.out.up13' (by omega) (by omega)⟩
          case measure => simp [intOf]; omega
        · obtain ⟨u, hu⟩ : ∃ u, L[k]? = some u := ⟨_, List.getElem?_eq_getElem (by rw [← Hn1.out]; exact h1)⟩
          obtain ⟨hw, g, off, rfl, hc⟩ := El1.out k u hu
          have Hw := Lib.hid hw; have Hc := Lib.hid hc
          have j1 : (k : Int) < (n1 : Int) := by omega
          clear hu hw hc
          have i0 : (0 : Int) ≤ (k : Int) := by omega
          obtain ⟨d0, d1, d2, d3, d4, d5, d6, d7, d8⟩ := Hc.out _ Sr.out.1
          go_wp2_with fail
          refine (step18_any Sr.out Hw.out (by omega) (by omega)).mono ?_
          rintro e v1 ⟨rfl, σ', nx', hlg1, s1⟩
          have Q1 := Lib.hid s1
          clear s1
          clear d0 d1 d2 d3 d4 d5 d6 d7 d8
          go_wp2
          go_roundw
          case rel => exact ⟨k + 1, σ', τ, nx', ny, by omega, by go_num, by omega, by omega, Q1.out.up13' (by omega) (by omega)⟩
          case measure => simp [intOf]; omega
      · by_cases h2 : k < n2
        · obtain ⟨u2, hu2⟩ : ∃ u, M[k]? = some u := ⟨_, List.getElem?_eq_getElem (by rw [← Hn2.out]; exact h2)⟩
          obtain ⟨hw2, g2, off2, rfl, hc2⟩ := El2.out k u2 hu2
          have Hw2 := Lib.hid hw2; have Hc2 := Lib.hid hc2
          have j2 : (k : Int) < (n2 : Int) := by omega
          clear hu2 hw2 hc2
          have i0 : (0 : Int) ≤ (k : Int) := by omega
          obtain ⟨f0, f1, f2, f3, f4, f5, f6, f7, f8⟩ := Hc2.out _ Sr.out.1
          go_wp2_with fail
          refine (step18_any (Sr.out.swap22) Hw2.out (by omega) (by omega)).mono ?_
          rintro e v2 ⟨rfl, τ', ny', hlg2, s2⟩
          have Q2 := Lib.hid s2.swap22
          clear s2
          clear f0 f1 f2 f3 f4 f5 f6 f7 f8
          go_wp2
          go_roundw
          case rel => exact ⟨k + 1, σ, τ', nx, ny', by omega, by go_num, by omega, by omega, Q2.out.up13' (by omega) (by omega)⟩
          case measure => simp [intOf]; omega
        · go_wp2
          go_roundw
          case rel => exact ⟨k + 1, σ, τ, nx, ny, by omega, by go_num, by omega, by omega, Sr.out.up13' (by omega) (by omega)⟩
          case measure => simp [intOf]; omega
    · have ek : k = 40 := by omega
      obtain ⟨oE, cE, hE, evE, hq⟩ := Sr.out.refev
      obtain ⟨oF, cF, hF, evF, hp⟩ := Sr.out.swap22.refev
      have EvE := Lib.hid evE; have EvF := Lib.hid evF
      have a1 : ∀ w', Chg [] wr w' → w'.cell? ⟨q, 0, none⟩ = some (ptr x) := fun w' c => c.cell hq (by simp)
      have a2 : ∀ w', Chg [] wr w' → w'.cell? ⟨x, 2, none⟩ = some (.slice oE σ.log.length cE) := fun w' c => c.cell hE (by simp)
      have a3 : ∀ w', Chg [] wr w' → w'.cell? ⟨q', 0, none⟩ = some (ptr x') := fun w' c => c.cell hp (by simp)
      have a4 : ∀ w', Chg [] wr w' → w'.cell? ⟨x', 2, none⟩ = some (.slice oF τ.log.length cF) := fun w' c => c.cell hF (by simp)
      clear evE evF hE hF hq hp
      have C0 : Chg [] wr wr.drew := (Chg.refl [] wr).drew
      go_wp2_with fail
      go_region_held3 (fun w' => Chg [] wr w') (assumption)
        (first
          | (go_at_call_of 26 (ptr m)
             refine (events0 (Sr.out.quiet (by assumption)).open1 (by omega)).mono ?_
             rintro e w5 ⟨v5, rfl, o5, c5, _⟩
             have C5 := Chg.quiet (S := []) (a := wr) (by assumption) c5
             have O5 := Lib.hid (EvSlice.of_owns o5)
             clear o5 c5)
          | (go_at_call_of 26 (ptr m')
             refine (events0 (Sr.out.swap22.quiet (by assumption)).open1 (by omega)).mono ?_
             rintro e w7 ⟨v7, rfl, o7, c7, _⟩
             have C7 := Chg.quiet (S := []) (a := wr) (by assumption) c7
             have O7 := Lib.hid (EvSlice.of_owns o7)
             clear o7 c7)
          | (go_at_call 25
             first
               | refine (plainEv_any O7.out (EvF.out.chg C7) (by omega)).mono ?_
               | refine (plainEv_any O5.out (EvE.out.chg C5) (by omega)).mono ?_
             rintro e w8 ⟨he, hc⟩
             rw [decide_eq_true rfl] at he
             subst he
             have C8 := Chg.quiet (S := []) (a := wr) (by assumption) hc
             clear hc))
      go_wp2
      go_ret
      exact ⟨rfl, (Sr.out.quiet C8).below⟩
end Go.Proofs.Ytjipjhmcpjffcaa
