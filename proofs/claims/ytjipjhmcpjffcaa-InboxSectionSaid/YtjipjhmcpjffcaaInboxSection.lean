/- InboxSection: it is calm just while nobody is in it; while what Sec tells stays the same nobody came, and nobody left. -/
import Derived.Test.YtjipjhmcpjffcaaInbT
set_option linter.unusedSimpArgs false
set_option linter.unusedVariables false
namespace Go.Proofs.Ytjipjhmcpjffcaa
open Go Go.RowKit Go.Maps

theorem sec_add (σ : MS) (who x : Int) : ((σ.put who 3 secL).set secL (IntKind.u64.wrap (σ.num secL + x))).num secL = IntKind.u64.wrap (σ.num secL + x) := by simp [MS.set]

set_option maxHeartbeats 8000000 in
set_option maxRecDepth 20000 in
theorem inboxSection_row {w : World} (a : Int) (v : Value) (L : List Int) (_ : I64 a) (_ : ∀ n, n ∈ L → I64 n) (h : NumsAt .i64 w v L) :
    Calls Try.prog 4 #[.int .i64 a, v] w fun e w' => e = .returned (.bool true) ∧ Below w.heap.size w w' := by
  obtain ⟨oa, cp, rfl, hlc, hcm, hel⟩ := h.form
  obtain ⟨N, hN⟩ : ∃ N, N = L.length := ⟨_, rfl⟩
  rw [← hN] at hlc ⊢
  have Hel := Lib.hid hel; have HN := Lib.hid hN; have S0 := Lib.hid (Scope.empty w)
  clear hel hN h
  go_enter Try.func4, Try.ntmps4
  go_wp2_with fail
  refine (made18_scope S0.out a).mono ?_
  rintro e w1 ⟨m, p, b, q, x, rfl, s1⟩
  have S1 := Lib.hid s1
  clear s1
  generalize cl a = sh at S1 ⊢
  go_wp2_with fail
  refine (awake18_scope S1.out).mono ?_
  rintro e w2 ⟨rfl, s2⟩
  have S2 := Lib.hid s2
  clear s2 S1
  go_wp2_with fail
  refine ((isec_does 0 (by decide)).at0 S2.out).mono ?_
  rintro e w3 ⟨he, s3⟩
  rw [show MS.zero.num secL = 0 from rfl] at he
  subst he
  have S3 := Lib.hid s3
  clear s3 S2
  go_wp2_with fail
  go_loopw [8, 9, 10] (fun n' last i wr => ∃ (k : Nat) (σ : MS) (E n : Int), k ≤ N ∧ k ≤ 80 ∧ i = .int .i64 k ∧ n' = .int .i64 n ∧ last = .int .u64 (σ.num secL) ∧ σ.log.length ≤ 2 * k + 1 ∧ 0 ≤ E ∧ 0 ≤ n ∧ E + n ≤ k ∧ σ.num secL = (E + n) * 4294967296 + E ∧ Scope [] w wr [inA p m b sh σ (fun _ => 0), rinA q x 0 0 sh MS.zero (fun _ => 0)]) (fun _ _ i _ => N - (intOf i).toNat)
  case atStart => exact ⟨0, MS.zero.put 0 1 secL, 0, 0, by omega, by omega, rfl, rfl, rfl, by simp [MS.zero, MS.put], by omega, by omega, by omega, rfl, S3.out⟩
  case round =>
    obtain ⟨k, σ, E, n, hk, hk2, rfl, rfl, rfl, hlg, hE, hn, hEn, hnum, hs⟩ := hrel
    have Sr := Lib.hid hs
    clear hs S3
    obtain ⟨v, hv0⟩ : ∃ v, v = σ.num secL := ⟨_, rfl⟩
    have hv : v = (E + n) * 4294967296 + E := by rw [hv0, hnum]
    have Hn := Lib.hid hv0.symm
    rw [← hv0]
    clear hv0 hnum
    by_cases hlt : k < N
    · by_cases h80 : k < 80
      · obtain ⟨z, hz⟩ : ∃ z, L[k]? = some z := ⟨_, List.getElem?_eq_getElem (by rw [← HN.out]; exact hlt)⟩
        obtain ⟨g, off, rfl, hc⟩ := Hel.out k z hz
        have d0 := hc wr Sr.out.1
        clear hc hz
        have i1 : (k : Int) < (N : Int) := by omega
        have i0 : (0 : Int) ≤ (k : Int) := by omega
        by_cases m0 : z.tmod 3 = 0
        · by_cases np : 0 < n
          · by_cases n1 : n = 1
            · have z1 : (n - 1 == 0) = true := by simp; omega
              clear n1
              have ne1 : (v + 1 != v) = true := bne_iff_ne.2 (by omega)
              have ne2 : (v + 1 == v) = false := beq_eq_false_iff_ne.2 (by omega)
              have hnum : ((σ.put k 3 secL).set secL (IntKind.u64.wrap (σ.num secL + 1))).num secL = v + 1 := (by rw [sec_add, Hn.out, IntKind.wrap_u64]; omega)
              have hu : U64 (v + 1) := ⟨by omega, by omega⟩
              have hcalm : calmB (v + 1) = true := decide_eq_true (by have : (n - 1 == 0) = true := z1; simp at this; omega)
              have Hnum := Lib.hid hnum; have Hu := Lib.hid hu; have Hcalm := Lib.hid hcalm; have Hv := Lib.hid hv
              clear hnum hu hcalm hv
              go_wp2_with fail
              refine ((iend_does (k : Int) (by omega)).at0 Sr.out).mono ?_
              rintro e w5 ⟨rfl, s5⟩
              have Q := Lib.hid s5
              clear s5 d0
              go_wp2_with fail
              refine ((isec_does 0 (by first | omega | (simp [MS.put, MS.set]; omega))).at0 Q.out).mono ?_
              rintro e w7 ⟨he, s7⟩
              rw [show ((σ.put k 3 secL).set secL (IntKind.u64.wrap (σ.num secL + 1))).num secL = v + 1 from Hnum.out] at he
              subst he
              have S7 := Lib.hid s7
              clear s7
              go_wp2_with fail
              refine (calm_pure (s := v + 1) Hu.out _).mono ?_
              rintro e w8 ⟨he, hc⟩
              rw [show calmB (v + 1) = true from Hcalm.out] at he
              subst he
              have S8 := Lib.hid (S7.out.quiet hc)
              clear hc
              go_wp2_with fail
              go_roundw
              case rel => exact ⟨k + 1, ((σ.put k 3 secL).set secL (IntKind.u64.wrap (σ.num secL + 1))).put 0 1 secL, E + 1, n - 1, by omega, by omega, by go_num, rfl, by rw [show (((σ.put k 3 secL).set secL (IntKind.u64.wrap (σ.num secL + 1))).put 0 1 secL).num secL = v + 1 from Hnum.out], (by simp [MS.put, MS.set]; omega), by omega, by omega, by omega, (Hnum.out.trans (by have := Hv.out; omega)), S8.out⟩
              case measure => simp [intOf]; omega
            · have z1 : (n - 1 == 0) = false := by simp; omega
              have ne1 : (v + 1 != v) = true := bne_iff_ne.2 (by omega)
              have ne2 : (v + 1 == v) = false := beq_eq_false_iff_ne.2 (by omega)
              have hnum : ((σ.put k 3 secL).set secL (IntKind.u64.wrap (σ.num secL + 1))).num secL = v + 1 := (by rw [sec_add, Hn.out, IntKind.wrap_u64]; omega)
              have hu : U64 (v + 1) := ⟨by omega, by omega⟩
              have hcalm : calmB (v + 1) = false := decide_eq_false (by omega)
              have Hnum := Lib.hid hnum; have Hu := Lib.hid hu; have Hcalm := Lib.hid hcalm; have Hv := Lib.hid hv
              clear hnum hu hcalm hv
              go_wp2_with fail
              refine ((iend_does (k : Int) (by omega)).at0 Sr.out).mono ?_
              rintro e w5 ⟨rfl, s5⟩
              have Q := Lib.hid s5
              clear s5 d0
              go_wp2_with fail
              refine ((isec_does 0 (by first | omega | (simp [MS.put, MS.set]; omega))).at0 Q.out).mono ?_
              rintro e w7 ⟨he, s7⟩
              rw [show ((σ.put k 3 secL).set secL (IntKind.u64.wrap (σ.num secL + 1))).num secL = v + 1 from Hnum.out] at he
              subst he
              have S7 := Lib.hid s7
              clear s7
              go_wp2_with fail
              refine (calm_pure (s := v + 1) Hu.out _).mono ?_
              rintro e w8 ⟨he, hc⟩
              rw [show calmB (v + 1) = false from Hcalm.out] at he
              subst he
              have S8 := Lib.hid (S7.out.quiet hc)
              clear hc
              go_wp2_with fail
              go_roundw
              case rel => exact ⟨k + 1, ((σ.put k 3 secL).set secL (IntKind.u64.wrap (σ.num secL + 1))).put 0 1 secL, E + 1, n - 1, by omega, by omega, by go_num, rfl, by rw [show (((σ.put k 3 secL).set secL (IntKind.u64.wrap (σ.num secL + 1))).put 0 1 secL).num secL = v + 1 from Hnum.out], (by simp [MS.put, MS.set]; omega), by omega, by omega, by omega, (Hnum.out.trans (by have := Hv.out; omega)), S8.out⟩
              case measure => simp [intOf]; omega
          · have n0 : n = 0 := by omega
            subst n0
            have hnum : (σ).num secL = v := Hn.out
            have hu : U64 (v) := ⟨by omega, by omega⟩
            have hcalm : calmB (v) = true := decide_eq_true (by omega)
            have Hnum := Lib.hid hnum; have Hu := Lib.hid hu; have Hcalm := Lib.hid hcalm; have Hv := Lib.hid hv
            clear hnum hu hcalm hv
            have Q := Lib.hid Sr.out
            go_wp2_with fail
            refine ((isec_does 0 (by first | omega | (simp [MS.put, MS.set]; omega))).at0 Q.out).mono ?_
            rintro e w7 ⟨he, s7⟩
            rw [show (σ).num secL = v from Hnum.out] at he
            subst he
            have S7 := Lib.hid s7
            clear s7
            go_wp2_with fail
            refine (calm_pure (s := v) Hu.out _).mono ?_
            rintro e w8 ⟨he, hc⟩
            rw [show calmB (v) = true from Hcalm.out] at he
            subst he
            have S8 := Lib.hid (S7.out.quiet hc)
            clear hc
            go_wp2_with fail
            go_roundw
            case rel => exact ⟨k + 1, (σ).put 0 1 secL, E, 0, by omega, by omega, by go_num, rfl, by rw [show ((σ).put 0 1 secL).num secL = v from Hnum.out], (by simp [MS.put, MS.set]; omega), by omega, by omega, by omega, (Hnum.out.trans (by have := Hv.out; omega)), S8.out⟩
            case measure => simp [intOf]; omega
        · have m0' : (z.tmod 3 == 0) = false := by simpa using m0
          by_cases m1 : z.tmod 3 = 1
          · have z1 : (n + 1 == 0) = false := by simp; omega
            have ne1 : (v + 4294967296 != v) = true := bne_iff_ne.2 (by omega)
            have ne2 : (v + 4294967296 == v) = false := beq_eq_false_iff_ne.2 (by omega)
            have hnum : ((σ.put k 3 secL).set secL (IntKind.u64.wrap (σ.num secL + 4294967296))).num secL = v + 4294967296 := (by rw [sec_add, Hn.out, IntKind.wrap_u64]; omega)
            have hu : U64 (v + 4294967296) := ⟨by omega, by omega⟩
            have hcalm : calmB (v + 4294967296) = false := decide_eq_false (by omega)
            have Hnum := Lib.hid hnum; have Hu := Lib.hid hu; have Hcalm := Lib.hid hcalm; have Hv := Lib.hid hv
            clear hnum hu hcalm hv
            go_wp2_with fail
            refine ((ibegin_does (k : Int) (by omega)).at0 Sr.out).mono ?_
            rintro e w5 ⟨rfl, s5⟩
            have Q := Lib.hid s5
            clear s5 d0
            go_wp2_with fail
            refine ((isec_does 0 (by first | omega | (simp [MS.put, MS.set]; omega))).at0 Q.out).mono ?_
            rintro e w7 ⟨he, s7⟩
            rw [show ((σ.put k 3 secL).set secL (IntKind.u64.wrap (σ.num secL + 4294967296))).num secL = v + 4294967296 from Hnum.out] at he
            subst he
            have S7 := Lib.hid s7
            clear s7
            go_wp2_with fail
            refine (calm_pure (s := v + 4294967296) Hu.out _).mono ?_
            rintro e w8 ⟨he, hc⟩
            rw [show calmB (v + 4294967296) = false from Hcalm.out] at he
            subst he
            have S8 := Lib.hid (S7.out.quiet hc)
            clear hc
            go_wp2_with fail
            go_roundw
            case rel => exact ⟨k + 1, ((σ.put k 3 secL).set secL (IntKind.u64.wrap (σ.num secL + 4294967296))).put 0 1 secL, E, n + 1, by omega, by omega, by go_num, rfl, by rw [show (((σ.put k 3 secL).set secL (IntKind.u64.wrap (σ.num secL + 4294967296))).put 0 1 secL).num secL = v + 4294967296 from Hnum.out], (by simp [MS.put, MS.set]; omega), by omega, by omega, by omega, (Hnum.out.trans (by have := Hv.out; omega)), S8.out⟩
            case measure => simp [intOf]; omega
          · have m1' : (z.tmod 3 == 1) = false := by simpa using m1
            by_cases n0 : n = 0
            · subst n0
              have hnum : (σ).num secL = v := Hn.out
              have hu : U64 (v) := ⟨by omega, by omega⟩
              have hcalm : calmB (v) = true := decide_eq_true (by omega)
              have Hnum := Lib.hid hnum; have Hu := Lib.hid hu; have Hcalm := Lib.hid hcalm; have Hv := Lib.hid hv
              clear hnum hu hcalm hv
              have Q := Lib.hid Sr.out
              go_wp2_with fail
              refine ((isec_does 0 (by first | omega | (simp [MS.put, MS.set]; omega))).at0 Q.out).mono ?_
              rintro e w7 ⟨he, s7⟩
              rw [show (σ).num secL = v from Hnum.out] at he
              subst he
              have S7 := Lib.hid s7
              clear s7
              go_wp2_with fail
              refine (calm_pure (s := v) Hu.out _).mono ?_
              rintro e w8 ⟨he, hc⟩
              rw [show calmB (v) = true from Hcalm.out] at he
              subst he
              have S8 := Lib.hid (S7.out.quiet hc)
              clear hc
              go_wp2_with fail
              go_roundw
              case rel => exact ⟨k + 1, (σ).put 0 1 secL, E, 0, by omega, by omega, by go_num, rfl, by rw [show ((σ).put 0 1 secL).num secL = v from Hnum.out], (by simp [MS.put, MS.set]; omega), by omega, by omega, by omega, (Hnum.out.trans (by have := Hv.out; omega)), S8.out⟩
              case measure => simp [intOf]; omega
            · have z1 : (n == 0) = false := by simpa using n0
              have hnum : (σ).num secL = v := Hn.out
              have hu : U64 (v) := ⟨by omega, by omega⟩
              have hcalm : calmB (v) = false := decide_eq_false (by omega)
              have Hnum := Lib.hid hnum; have Hu := Lib.hid hu; have Hcalm := Lib.hid hcalm; have Hv := Lib.hid hv
              clear hnum hu hcalm hv
              have Q := Lib.hid Sr.out
              go_wp2_with fail
              refine ((isec_does 0 (by first | omega | (simp [MS.put, MS.set]; omega))).at0 Q.out).mono ?_
              rintro e w7 ⟨he, s7⟩
              rw [show (σ).num secL = v from Hnum.out] at he
              subst he
              have S7 := Lib.hid s7
              clear s7
              go_wp2_with fail
              refine (calm_pure (s := v) Hu.out _).mono ?_
              rintro e w8 ⟨he, hc⟩
              rw [show calmB (v) = false from Hcalm.out] at he
              subst he
              have S8 := Lib.hid (S7.out.quiet hc)
              clear hc
              go_wp2_with fail
              go_roundw
              case rel => exact ⟨k + 1, (σ).put 0 1 secL, E, n, by omega, by omega, by go_num, rfl, by rw [show ((σ).put 0 1 secL).num secL = v from Hnum.out], (by simp [MS.put, MS.set]; omega), by omega, by omega, by omega, (Hnum.out.trans (by have := Hv.out; omega)), S8.out⟩
              case measure => simp [intOf]; omega
      · have e80 : k = 80 := by omega
        go_wp2
        go_ret
        exact ⟨rfl, Sr.out.below⟩
    · have ek : k = N := by omega
      go_wp2
      go_ret
      exact ⟨rfl, Sr.out.below⟩
end Go.Proofs.Ytjipjhmcpjffcaa
