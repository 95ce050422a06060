/- PostApart: two have nothing in common. -/
import Derived.Test.YtjipjhmcpjffcacPostPlays
set_option linter.unusedSimpArgs false
set_option linter.unusedVariables false
set_option maxRecDepth 20000
namespace Go.Proofs.Ytjipjhmcpjffcac
open Go Go.RowKit Go.Maps

section
variable {S : List Nat} {w0 w : World} {A B C D : HA} {Es : List HA} {q x q' x' : Nat} {W W' : Int} {KC KD : List (Int × Cl)} {JR JS : List (Int × Rt)}
theorem Scope.swap22 (h : Scope S w0 w (A :: B :: C :: D :: Es)) : Scope S w0 w (C :: D :: A :: B :: Es) := Scope.swap (As := [A, B]) (Bs := [C, D]) (Cs := Es) h
theorem Scope.up13' {n1 n2 k1 k2 : Nat} {σ τ : MS} (h : Scope S w0 w (A :: rpostA q x n1 W σ KC JR :: C :: rpostA q' x' n2 W' τ KD JS :: Es)) (h1 : n1 ≤ k1) (h2 : n2 ≤ k2) : Scope S w0 w (A :: rpostA q x k1 W σ KC JR :: C :: rpostA q' x' k2 W' τ KD JS :: Es) := (Scope.rpost_up (Scope.swap22 (Scope.rpost_up h h1)) h2).swap22
end

set_option maxHeartbeats 8000000 in
set_option maxRecDepth 20000 in
theorem postApart_row {w : World} (a c : Int) (v1 : Value) (L : List Tn) (v2 : Value) (M : List Tn) (_ : I64 a) (_ : I64 c) (_ : True) (hL : TurnsAt w v1 L) (_ : True) (hM : TurnsAt w v2 M) :
    Calls Try.prog 8 #[.int .i64 a, .int .i64 c, v1, v2] w fun e w' => e = .returned (.bool true) ∧ Below w.heap.size w w' := by
  obtain ⟨oa, cp1, rfl, hlc1, hcm1, hel1⟩ := hL
  obtain ⟨ob, cp2, rfl, hlc2, hcm2, hel2⟩ := hM
  obtain ⟨n1, hn1⟩ : ∃ n, n = L.length := ⟨_, rfl⟩
  obtain ⟨n2, hn2⟩ : ∃ n, n = M.length := ⟨_, rfl⟩
  rw [← hn1] at hlc1 ⊢
  rw [← hn2] at hlc2 ⊢
  have El1 := Lib.hid hel1; have El2 := Lib.hid hel2; have Hn1 := Lib.hid hn1; have Hn2 := Lib.hid hn2; have S0 := Lib.hid (Scope.empty w)
  clear hel1 hel2 hn1 hn2
  go_enter Try.func8, Try.ntmps8
  go_wp2_with fail
  refine (made20_scope S0.out a).mono ?_
  rintro e w1 ⟨m, p, ba, br, q, x, rfl, s1⟩
  have S1 := Lib.hid (Scope.rpshut s1)
  clear s1
  go_wp2_with fail
  refine (made20_scope S1.out c).mono ?_
  rintro e w2 ⟨m', p', ba', br', q', x', rfl, s2⟩
  have S2 := Lib.hid (Scope.rpshut s2).swap22
  clear s2 S1
  generalize cl6 a = W at S2 ⊢
  generalize cl6 c = W' at S2 ⊢
  go_wp2_with fail
  refine (awake20_scope S2.out).mono ?_
  rintro e w3 ⟨rfl, s3⟩
  have S3 := Lib.hid s3
  clear s3 S2
  go_wp2_with fail
  go_loopw [15] (fun i wr => ∃ (k : Nat) (σ τ : MS) (KC KD : List (Int × Cl)) (JR JS : List (Int × Rt)), k ≤ 40 ∧ i = .int .i64 k ∧ σ.log.length ≤ 2 * k ∧ τ.log.length ≤ 2 * k ∧ KC.length ≤ k ∧ KD.length ≤ k ∧ JR.length ≤ k ∧ JS.length ≤ k ∧ Scope [] w wr [postA p m ba br W σ KC JR, rpostA q x (2 * k) W σ KC JR, postA p' m' ba' br' W' τ KD JS, rpostA q' x' (2 * k) W' τ KD JS]) (fun i _ => 40 - (intOf i).toNat)
  case atStart => exact ⟨0, MS.zero, MS.zero, [], [], [], [], by omega, rfl, by simp [MS.zero], by simp [MS.zero], by simp, by simp, by simp, by simp, S3.out⟩
  case round =>
    obtain ⟨k, σ, τ, KC, KD, JR, JS, hk, rfl, hlg, hlg', hkc, hkd, hjr, hjs, hs⟩ := hrel
    have Sr := Lib.hid hs
    clear hs S3
    by_cases h40 : k < 40
    · have i40 : (k : Int) < 40 := by omega
      by_cases h1 : k < n1
      · by_cases h2 : k < n2
        · as_aux_lemma =>
            obtain ⟨t, hu⟩ : ∃ u, L[k]? = some u := ⟨_, List.getElem?_eq_getElem (by rw [← Hn1.out]; exact h1)⟩
            obtain ⟨hw, hok, g, off, sl, rfl, hps, hc⟩ := El1.out k t hu
            have Hw := Lib.hid hw; have Hok := Lib.hid hok; have Hps := Lib.hid hps; have Hc := Lib.hid hc
            have j1 : (k : Int) < (n1 : Int) := by omega
            clear hu hw hok hps hc
            obtain ⟨t2, hu2⟩ : ∃ u, M[k]? = some u := ⟨_, List.getElem?_eq_getElem (by rw [← Hn2.out]; exact h2)⟩
            obtain ⟨hw2, hok2, g2, off2, sl2, rfl, hps2, hc2⟩ := El2.out k t2 hu2
            have Hw2 := Lib.hid hw2; have Hok2 := Lib.hid hok2; have Hps2 := Lib.hid hps2; have Hc2 := Lib.hid hc2
            have j2 : (k : Int) < (n2 : Int) := by omega
            clear hu2 hw2 hok2 hps2 hc2
            have i0 : (0 : Int) ≤ (k : Int) := by omega
            obtain ⟨⟨d0, d1, d2, d3, d4, d5, d6, d7, d8⟩, ⟨d9, d10, d11, d12⟩, ⟨d13, d14, d15, d16⟩⟩ := Hc.out _ Sr.out.1
            go_wp2_with fail
            refine (step20_any (t := t) Sr.out Hw.out Hok.out Hps.out (by omega) (by omega) (by omega) (by omega)).mono ?_
            rintro e v1 ⟨rfl, σ', KC', JR', hlg1, hkc1, hjr1, s1⟩
            have Q1 := Lib.hid s1
            clear s1
            clear d0 d1 d2 d3 d4 d5 d6 d7 d8 d9 d10 d11 d12 d13 d14 d15 d16
            obtain ⟨⟨f0, f1, f2, f3, f4, f5, f6, f7, f8⟩, ⟨f9, f10, f11, f12⟩, ⟨f13, f14, f15, f16⟩⟩ := Hc2.out _ Q1.out.1
            go_wp2_with fail
            refine (step20_any (t := t2) (Q1.out.swap22) Hw2.out Hok2.out Hps2.out (by omega) (by omega) (by omega) (by omega)).mono ?_
            rintro e v2 ⟨rfl, τ', KD', JS', hlg2, hkc2, hjr2, s2⟩
            have Q2 := Lib.hid s2.swap22
            clear s2
            clear f0 f1 f2 f3 f4 f5 f6 f7 f8 f9 f10 f11 f12 f13 f14 f15 f16
            go_wp2
            go_roundw
            case rel => exact ⟨k + 1, σ', τ', KC', KD', JR', JS', by omega, by go_num, by omega, by omega, by omega, by omega, by omega, by omega, Q2.out.up13' (by omega) (by omega)⟩
            case measure => simp [intOf]; omega
        · as_aux_lemma =>
            obtain ⟨t, hu⟩ : ∃ u, L[k]? = some u := ⟨_, List.getElem?_eq_getElem (by rw [← Hn1.out]; exact h1)⟩
            obtain ⟨hw, hok, g, off, sl, rfl, hps, hc⟩ := El1.out k t hu
            have Hw := Lib.hid hw; have Hok := Lib.hid hok; have Hps := Lib.hid hps; have Hc := Lib.hid hc
            have j1 : (k : Int) < (n1 : Int) := by omega
            clear hu hw hok hps hc
            have i0 : (0 : Int) ≤ (k : Int) := by omega
            obtain ⟨⟨d0, d1, d2, d3, d4, d5, d6, d7, d8⟩, ⟨d9, d10, d11, d12⟩, ⟨d13, d14, d15, d16⟩⟩ := Hc.out _ Sr.out.1
            go_wp2_with fail
            refine (step20_any (t := t) Sr.out Hw.out Hok.out Hps.out (by omega) (by omega) (by omega) (by omega)).mono ?_
            rintro e v1 ⟨rfl, σ', KC', JR', hlg1, hkc1, hjr1, s1⟩
            have Q1 := Lib.hid s1
            clear s1
            clear d0 d1 d2 d3 d4 d5 d6 d7 d8 d9 d10 d11 d12 d13 d14 d15 d16
            go_wp2
            go_roundw
            case rel => exact ⟨k + 1, σ', τ, KC', KD, JR', JS, by omega, by go_num, by omega, by omega, by omega, by omega, by omega, by omega, Q1.out.up13' (by omega) (by omega)⟩
            case measure => simp [intOf]; omega
      · by_cases h2 : k < n2
        · as_aux_lemma =>
            obtain ⟨t2, hu2⟩ : ∃ u, M[k]? = some u := ⟨_, List.getElem?_eq_getElem (by rw [← Hn2.out]; exact h2)⟩
            obtain ⟨hw2, hok2, g2, off2, sl2, rfl, hps2, hc2⟩ := El2.out k t2 hu2
            have Hw2 := Lib.hid hw2; have Hok2 := Lib.hid hok2; have Hps2 := Lib.hid hps2; have Hc2 := Lib.hid hc2
            have j2 : (k : Int) < (n2 : Int) := by omega
            clear hu2 hw2 hok2 hps2 hc2
            have i0 : (0 : Int) ≤ (k : Int) := by omega
            obtain ⟨⟨f0, f1, f2, f3, f4, f5, f6, f7, f8⟩, ⟨f9, f10, f11, f12⟩, ⟨f13, f14, f15, f16⟩⟩ := Hc2.out _ Sr.out.1
            go_wp2_with fail
            refine (step20_any (t := t2) (Sr.out.swap22) Hw2.out Hok2.out Hps2.out (by omega) (by omega) (by omega) (by omega)).mono ?_
            rintro e v2 ⟨rfl, τ', KD', JS', hlg2, hkc2, hjr2, s2⟩
            have Q2 := Lib.hid s2.swap22
            clear s2
            clear f0 f1 f2 f3 f4 f5 f6 f7 f8 f9 f10 f11 f12 f13 f14 f15 f16
            go_wp2
            go_roundw
            case rel => exact ⟨k + 1, σ, τ', KC, KD', JR, JS', by omega, by go_num, by omega, by omega, by omega, by omega, by omega, by omega, Q2.out.up13' (by omega) (by omega)⟩
            case measure => simp [intOf]; omega
        · as_aux_lemma =>
            go_wp2
            go_roundw
            case rel => exact ⟨k + 1, σ, τ, KC, KD, JR, JS, by omega, by go_num, by omega, by omega, by omega, by omega, by omega, by omega, Sr.out.up13' (by omega) (by omega)⟩
            case measure => simp [intOf]; omega
    · as_aux_lemma =>
      have ek : k = 40 := by omega
      obtain ⟨oE, cE, hE, evE, hq⟩ := Sr.out.refev
      obtain ⟨oF, cF, hF, evF, hp⟩ := Sr.out.swap22.refev
      have EvE := Lib.hid evE; have EvF := Lib.hid evF
      have a1 : ∀ w', Chg [] wr w' → w'.cell? ⟨q, 0, none⟩ = some (ptr x) := fun w' c => c.cell hq (by simp)
      have a2 : ∀ w', Chg [] wr w' → w'.cell? ⟨x, 2, none⟩ = some (.slice oE σ.log.length cE) := fun w' c => c.cell hE (by simp)
      have a3 : ∀ w', Chg [] wr w' → w'.cell? ⟨q', 0, none⟩ = some (ptr x') := fun w' c => c.cell hp (by simp)
      have a4 : ∀ w', Chg [] wr w' → w'.cell? ⟨x', 2, none⟩ = some (.slice oF τ.log.length cF) := fun w' c => c.cell hF (by simp)
      clear evE evF hE hF hq hp
      have C0 : Chg [] wr wr.drew := (Chg.refl [] wr).drew
      go_wp2_with fail
      go_region_held3 (fun w' => Chg [] wr w') (assumption)
        (first
          | (go_at_call_of 28 (ptr m)
             refine (post_events0 (Sr.out.quiet (by assumption)) (by omega)).mono ?_
             rintro e w5 ⟨v5, rfl, o5, c5, _⟩
             have C5 := Chg.quiet (S := []) (a := wr) (by assumption) c5
             have O5 := Lib.hid (EvSlice.of_owns o5)
             clear o5 c5)
          | (go_at_call_of 28 (ptr m')
             refine (post_events0 (Sr.out.swap22.quiet (by assumption)) (by omega)).mono ?_
             rintro e w7 ⟨v7, rfl, o7, c7, _⟩
             have C7 := Chg.quiet (S := []) (a := wr) (by assumption) c7
             have O7 := Lib.hid (EvSlice.of_owns o7)
             clear o7 c7)
          | (go_at_call 27
             first
               | refine (plainEv_any O7.out (EvF.out.chg C7) (by omega)).mono ?_
               | refine (plainEv_any O5.out (EvE.out.chg C5) (by omega)).mono ?_
             rintro e w8 ⟨he, hc⟩
             rw [decide_eq_true rfl] at he
             subst he
             have C8 := Chg.quiet (S := []) (a := wr) (by assumption) hc
             clear hc))
      go_wp2
      go_ret
      exact ⟨rfl, (Sr.out.quiet C8).below⟩
end Go.Proofs.Ytjipjhmcpjffcac
