/- PostLock: of all who Try only one has the lock, till it leaves. -/
import Derived.Test.YtjipjhmcpjffcacPostC
set_option linter.unusedSimpArgs false
set_option linter.unusedVariables false
set_option maxRecDepth 20000
namespace Go.Proofs.Ytjipjhmcpjffcac
open Go Go.RowKit Go.Maps
def heldN (b : Bool) : Int := if b then 1 else 0
theorem trylock {σ : MS} {n : Nat} {b : Bool} (h : PSt σ n 0 (σ.num (reqL 0)) (heldN b)) (who : Int) : PSt (σ.swap who lockL 0 1) (n + 1) 0 ((σ.swap who lockL 0 1).num (reqL 0)) (heldN true) ∧ decide (σ.num lockL = 0) = !b := by
  cases b
  · exact ⟨⟨(h.try0 who).len, rfl, (h.try0 who).lk⟩, lockd0 h⟩
  · exact ⟨⟨(h.try1 who).len, rfl, (h.try1 who).lk⟩, lockd1 h⟩
set_option maxHeartbeats 4000000 in
set_option maxRecDepth 20000 in
theorem postLock_row {w : World} (a : Int) (v : Value) (L : List Int) (ha : I64 a) (hL : ∀ n, n ∈ L → I64 n) (h : NumsAt .i64 w v L) :
    Calls Try.prog 5 #[.int .i64 a, v] w fun e w' => e = .returned (.bool true) ∧ Below w.heap.size w w' := by
  obtain ⟨oa, cp, rfl, hlc, hcm, hel⟩ := h.form
  obtain ⟨N, hN⟩ : ∃ N, N = L.length := ⟨_, rfl⟩
  rw [← hN] at hlc ⊢
  have Hel := Lib.hid hel; have HN := Lib.hid hN; have S0 := Lib.hid (Scope.empty w); have HL := Lib.hid hL
  clear hel hN h hL
  have hm : N ≤ 9223372036854775807 := by unfold maxLen at hcm; omega
  clear hcm
  go_enter Try.func5, Try.ntmps5
  go_wp2_with fail
  refine (made20_scope S0.out a).mono ?_
  rintro e w1 ⟨m, p, ba, br, q, x, rfl, s1⟩
  have S1 := Lib.hid s1
  clear s1
  generalize cl6 a = W at S1 ⊢
  go_wp2_with fail
  refine (awake20_scope S1.out).mono ?_
  rintro e w2 ⟨rfl, s2⟩
  have S2 := Lib.hid s2
  clear s2
  go_wp2_with fail
  go_loopw [8, 9] (fun hd i wr => ∃ (k : Nat) (σ : MS) (b : Bool), k ≤ N ∧ k ≤ 80 ∧ hd = .bool b ∧ i = .int .i64 k ∧ PSt σ k 0 (σ.num (reqL 0)) (heldN b) ∧ Scope [] w wr (postA p m ba br W σ [] [] :: ([] ++ [refA x 0 MS.zero] ++ [box q [ptr x, .int .i64 W, .slice none 0 0, .slice none 0 0, .slice none 0 0, .slice none 0 0] 59]))) (fun _ i _ => N - (intOf i).toNat)
  case atStart => exact ⟨0, MS.zero, false, by omega, by omega, rfl, rfl, ⟨rfl, rfl, rfl⟩, S2.out⟩
  case round =>
    obtain ⟨k, σ, b, hk, hk2, rfl, rfl, hp, hs⟩ := hrel
    have Sr := Lib.hid hs; have Pr := Lib.hid hp
    clear hs hp S1 S2
    by_cases hlt : k < N
    · by_cases h80 : k < 80
      · obtain ⟨x0, hx⟩ : ∃ u, L[k]? = some u := ⟨_, List.getElem?_eq_getElem (by rw [← HN.out]; exact hlt)⟩
        obtain ⟨g, off, rfl, hc⟩ := Hel.out k x0 hx
        have c0 := hc wr Sr.out.1
        have Hc := Lib.hid hc
        have i1 : (k : Int) < (N : Int) := by omega
        have i0 : (0 : Int) ≤ (k : Int) := by omega
        have i80 : (k : Int) < 80 := by omega
        have r0 := tmod_b' x0
        have e0 : IntKind.i64.wrap (x0.tmod 3) = x0.tmod 3 := by rw [IntKind.wrap_i64]; omega
        clear hx hc r0
        by_cases hz : x0.tmod 3 = 0
        · have hz' : (x0.tmod 3 == 0) = true := by simpa using hz
          have Hz := Lib.hid hz
          clear hz
          go_wp2_with fail
          refine ((pleave_does (k : Int) (by rw [Pr.out.len]; omega)).at0 Sr.out).mono ?_
          rintro e w3 ⟨rfl, s3⟩
          have S3 := Lib.hid s3
          clear s3 c0
          have P3 := (Pr.out.put (k : Int) 2 lockL).lock 0
          go_wp2_with fail
          go_roundw
          case rel => exact ⟨k + 1, _, false, by omega, by omega, rfl, by go_num, ⟨P3.len, rfl, P3.lk⟩, S3.out⟩
          case measure => simp [intOf]; omega
        · have hz' : (x0.tmod 3 == 0) = false := by simpa using hz
          have Hz := Lib.hid hz
          have hts := trylock Pr.out x0
          have Ht := Lib.hid hts.1; have Hd := Lib.hid hts.2
          clear hz hts
          go_wp2_with fail
          refine ((ptry_does x0 (by rw [Pr.out.len]; omega)).at0 Sr.out).mono ?_
          rintro e w3 ⟨he, s3⟩
          rw [Hd.out] at he
          subst he
          have S3 := Lib.hid s3
          clear s3 c0
          cases b
          · go_wp2_with fail
            go_roundw
            case rel => exact ⟨k + 1, _, true, by omega, by omega, rfl, by go_num, Ht.out, S3.out⟩
            case measure => simp [intOf]; omega
          · go_wp2_with fail
            go_roundw
            case rel => exact ⟨k + 1, _, true, by omega, by omega, rfl, by go_num, Ht.out, S3.out⟩
            case measure => simp [intOf]; omega
      · have e80 : k = 80 := by omega
        subst e80
        go_wp2
        go_ret
        exact ⟨rfl, Sr.out.below⟩
    · have ek : k = N := by omega
      go_wp2
      go_ret
      exact ⟨rfl, Sr.out.below⟩
end Go.Proofs.Ytjipjhmcpjffcac
