/- MemApart: two memories have nothing in common; who writes into events that were told changes nothing. -/
import Derived.Test.YtcbipbnomgdklaaSpoil
set_option linter.unusedSimpArgs false
set_option linter.unusedVariables false
namespace Go.Proofs.Ytcbipbnomgdklaa
open Go Go.RowKit Go.Maps

def TwoEv (x y : Nat) (v u : Value) (w : World) : Prop := w.cell? ⟨x, 2, none⟩ = some v ∧ w.cell? ⟨y, 2, none⟩ = some u
theorem TwoEv.chg {x y : Nat} {v u : Value} {w w' : World} (h : TwoEv x y v u w) (c : Chg [] w w') : TwoEv x y v u w' := ⟨c.cell h.1 (by simp), c.cell h.2 (by simp)⟩
section
variable {S : List Nat} {w0 w : World} {A B C D : HA} {Es : List HA}
theorem Scope.swap22 (h : Scope S w0 w (A :: B :: C :: D :: Es)) : Scope S w0 w (C :: D :: A :: B :: Es) := Scope.swap (As := [A, B]) (Bs := [C, D]) (Cs := Es) h
theorem Scope.ev3 {p n : Nat} {σ : MS} (h : Scope S w0 w (A :: B :: C :: refA p n σ :: Es)) : ∃ oE cE, w.cell? ⟨p, 2, none⟩ = some (.slice oE σ.log.length cE) ∧ EvSlice w (.slice oE σ.log.length cE) σ.log := h.swap22.ev1
theorem Scope.up13 {x y n1 n2 m1 m2 : Nat} {σ τ : MS} (h : Scope S w0 w (A :: refA x n1 σ :: C :: refA y n2 τ :: Es)) (h1 : n1 ≤ m1) (h2 : n2 ≤ m2) : Scope S w0 w (A :: refA x m1 σ :: C :: refA y m2 τ :: Es) := (h.up1 h1).swap22.up1 h2 |>.swap22
end

set_option maxHeartbeats 8000000 in
set_option maxRecDepth 20000 in
theorem memApart_row {w : World} (v1 : Value) (L : List Us) (v2 : Value) (M : List Us) (_ : True) (hL : UsesAt w v1 L) (_ : True) (hM : UsesAt w v2 M) :
    Calls Try.prog 7 #[v1, v2] w fun e w' => e = .returned (.bool true) ∧ Below w.heap.size w w' := by
  obtain ⟨oa, cp1, rfl, hlc1, hcm1, hel1⟩ := hL.form
  obtain ⟨ob, cp2, rfl, hlc2, hcm2, hel2⟩ := hM.form
  obtain ⟨n1, hn1⟩ : ∃ n, n = L.length := ⟨_, rfl⟩
  obtain ⟨n2, hn2⟩ : ∃ n, n = M.length := ⟨_, rfl⟩
  rw [← hn1] at hlc1 ⊢
  rw [← hn2] at hlc2 ⊢
  have El1 := Lib.hid hel1; have El2 := Lib.hid hel2; have Hn1 := Lib.hid hn1; have Hn2 := Lib.hid hn2; have S0 := Lib.hid (Scope.empty w)
  clear hel1 hel2 hn1 hn2 hL hM
  go_enter Try.func7, Try.ntmps7
  go_wp2_with fail
  refine (new_scope S0.out).mono ?_
  rintro e w1 ⟨m, rfl, s1⟩
  have S1 := Lib.hid (ref_new s1)
  clear s1
  go_wp2_with fail
  generalize w1.heap.size = x at S1 ⊢
  refine (new_scope S1.out).mono ?_
  rintro e w2 ⟨n, rfl, s2⟩
  have S2 := Lib.hid (ref_new s2)
  clear s2 S1
  go_wp2_with fail
  generalize w2.heap.size = y at S2 ⊢
  refine (awake16_scope S2.out).mono ?_
  rintro e w3 ⟨rfl, s3⟩
  have S3 := Lib.hid (show Scope [] w w3 [memA m MS.zero, refA x 0 MS.zero, memA n MS.zero, refA y 0 MS.zero] from Scope.swap (As := [memA n MS.zero]) (Bs := [memA m MS.zero, refA x 0 MS.zero]) (Cs := [refA y 0 MS.zero]) s3)
  clear s3 S2
  go_wp2_with fail
  go_loopw [9] (fun i wr => ∃ (k : Nat) (σ τ : MS), k ≤ n1 ∧ k ≤ 40 ∧ i = .int .i64 k ∧ σ.log.length ≤ k ∧ τ.log.length ≤ k ∧ Scope [] w wr [memA m σ, refA x (2 * k) σ, memA n τ, refA y (2 * k) τ]) (fun i _ => n1 - (intOf i).toNat)
  case atStart => exact ⟨0, MS.zero, MS.zero, by omega, by omega, rfl, by simp [MS.zero], by simp [MS.zero], S3.out⟩
  case round =>
    obtain ⟨k, σ, τ, hk, hk2, rfl, hlg, hlg2, hs⟩ := hrel
    have Sr := Lib.hid hs
    clear hs S3
    by_cases hlt : k < n1
    · by_cases h40 : k < 40
      · obtain ⟨u, hu⟩ : ∃ u, L[k]? = some u := ⟨_, List.getElem?_eq_getElem (by rw [← Hn1.out]; exact hlt)⟩
        obtain ⟨hw, g, off, rfl, hc⟩ := El1.out k u hu
        obtain ⟨d0, d1, d2, d3, d4, d5, d6, d7, d8⟩ := hc wr Sr.out.1
        have Hw := Lib.hid hw
        clear hc hu hw
        have i1 : (k : Int) < (n1 : Int) := by omega
        have i0 : (0 : Int) ≤ (k : Int) := by omega
        by_cases h2 : k < n2
        · obtain ⟨u2, hu2⟩ : ∃ u, M[k]? = some u := ⟨_, List.getElem?_eq_getElem (by rw [← Hn2.out]; exact h2)⟩
          obtain ⟨hw2, g2, off2, rfl, hc2⟩ := El2.out k u2 hu2
          have Hw2 := Lib.hid hw2; have Hc2 := Lib.hid hc2
          clear hc2 hu2 hw2
          have i2 : (k : Int) < (n2 : Int) := by omega
          go_wp2_with fail
          refine (step_any Sr.out Hw.out (by omega) (by omega)).mono ?_
          rintro e w4 ⟨rfl, σ', hlg', s4⟩
          have S4 := Lib.hid s4.swap22
          obtain ⟨e0, e1, e2, e3, e4, e5, e6, e7, e8⟩ := Hc2.out w4 s4.1
          clear s4 d0 d1 d2 d3 d4 d5 d6 d7 d8
          go_wp2_with fail
          refine (step_any S4.out Hw2.out (by omega) (by omega)).mono ?_
          rintro e w6 ⟨rfl, τ', hlg2', s6⟩
          have S5 := Lib.hid s6.swap22
          clear s6 e0 e1 e2 e3 e4 e5 e6 e7 e8
          go_wp2_with fail
          refine (events0 S5.out (by omega)).mono ?_
          rintro e w5 ⟨v5, rfl, o5, c5, n5⟩
          have O5 := Lib.hid o5; have C5 := Lib.hid c5; have N5 := Lib.hid n5
          clear o5 c5 n5
          go_wp2_with fail
          refine (spoil_scope S5.out C5.out O5.out N5.out (by omega)).mono ?_
          rintro e w6 ⟨rfl, s6⟩
          have S6 := Lib.hid s6
          clear s6
          go_wp2
          go_roundw
          case rel => exact ⟨k + 1, σ', τ', by omega, by omega, by go_num, by omega, by omega, S6.out.up13 (by omega) (by omega)⟩
          case measure => simp [intOf]; omega
        · go_wp2_with fail
          refine (step_any Sr.out Hw.out (by omega) (by omega)).mono ?_
          rintro e w4 ⟨rfl, σ', hlg', s4⟩
          have S5 := Lib.hid s4
          clear s4 d0 d1 d2 d3 d4 d5 d6 d7 d8
          go_wp2_with fail
          refine (events0 S5.out (by omega)).mono ?_
          rintro e w5 ⟨v5, rfl, o5, c5, n5⟩
          have O5 := Lib.hid o5; have C5 := Lib.hid c5; have N5 := Lib.hid n5
          clear o5 c5 n5
          go_wp2_with fail
          refine (spoil_scope S5.out C5.out O5.out N5.out (by omega)).mono ?_
          rintro e w6 ⟨rfl, s6⟩
          have S6 := Lib.hid s6
          clear s6
          go_wp2
          go_roundw
          case rel => exact ⟨k + 1, σ', τ, by omega, by omega, by go_num, by omega, by omega, S6.out.up13 (by omega) (by omega)⟩
          case measure => simp [intOf]; omega
      · have e40 : k = 40 := by omega
        obtain ⟨oE, cE, hE, evE⟩ := Sr.out.ev1
        obtain ⟨oF, cF, hF, evF⟩ := Sr.out.ev3
        have EvE := Lib.hid evE; have EvF := Lib.hid evF
        clear evE evF
        have hEF : TwoEv x y (.slice oE σ.log.length cE) (.slice oF τ.log.length cF) wr.drew := ⟨hE, hF⟩
        clear hE hF
        go_wp2_with fail
        refine wp_region_any (by kernel_rfl) ?_
        change wpAny _ _ _ _ _ _ _ wr.drew
        have C0 : Chg [] wr wr.drew := (Chg.refl _ _).drew
        have S0 := Lib.hid Sr.out.drew
        generalize wr.drew = c0 at hEF C0 S0 ⊢
        refine wpAny_take (i := 0) (v := .pointer (some ⟨m, 0, none⟩)) rfl (by kernel_rfl) (by kernel_rfl) (by kernel_rfl) (fun _ _ _ h => h) (Or.inl ⟨by rfl, fun w' => by go_simp⟩) ?_
        try simp only [Act.put, List.getElem_toArray, List.getElem_cons_succ, List.getElem_cons_zero, List.setIfInBounds_toArray, List.set_cons_zero, List.set_cons_succ]
        refine wpAny_take (i := 2) (v := .pointer (some ⟨x, 0, none⟩)) rfl (by kernel_rfl) (by kernel_rfl) (by kernel_rfl) (fun _ _ _ h => h) (Or.inl ⟨by rfl, fun w' => by go_simp⟩) ?_
        try simp only [Act.put, List.getElem_toArray, List.getElem_cons_succ, List.getElem_cons_zero, List.setIfInBounds_toArray, List.set_cons_zero, List.set_cons_succ]
        refine wpAny_take (i := 3) (v := .pointer (some ⟨x, 0, none⟩)) rfl (by kernel_rfl) (by kernel_rfl) (by kernel_rfl) (fun _ _ _ h => h) (Or.inl ⟨by rfl, fun w' => by go_simp⟩) ?_
        try simp only [Act.put, List.getElem_toArray, List.getElem_cons_succ, List.getElem_cons_zero, List.setIfInBounds_toArray, List.set_cons_zero, List.set_cons_succ]
        refine wpAny_take (i := 4) (v := .pointer (some ⟨x, 2, none⟩)) rfl (by kernel_rfl) (by kernel_rfl) (by kernel_rfl) (fun _ _ _ h => h) (Or.inl ⟨by rfl, fun w' => by go_simp⟩) ?_
        try simp only [Act.put, List.getElem_toArray, List.getElem_cons_succ, List.getElem_cons_zero, List.setIfInBounds_toArray, List.set_cons_zero, List.set_cons_succ]
        refine wpAny_of_U (S := TwoEv x y (.slice oE σ.log.length cE) (.slice oF τ.log.length cF)) (U := [1, 5, 6, 7, 8, 9, 10, 11, 12, 13, 14, 15, 16]) _ _ _ _ ?_
        refine wpAnyU_take (i := 5) (v := .slice oE σ.log.length cE) rfl (by kernel_rfl) (by kernel_rfl) (by kernel_rfl) (by kernel_rfl) (fun _ _ _ h => h) (Or.inl ⟨by rfl, fun w' hS => by (obtain ⟨t0, t1⟩ := hS; go_simp)⟩) hEF ?_
        try simp only [Act.put, List.getElem_toArray, List.getElem_cons_succ, List.getElem_cons_zero, List.setIfInBounds_toArray, List.set_cons_zero, List.set_cons_succ]
        refine wpAnyU_all (rs := [1]) (by kernel_rfl) (by simp) (fun i hi => ?_)
        obtain rfl : i = 1 := by simpa using hi
        refine wpOpU_stepG rfl (by rfl) (fun K hK => ?_)
        go_simp
        refine (events0 S0.out (by omega)).mono ?_
        rintro e w5 ⟨v5, rfl, o5, c5, _⟩
        have O5 := Lib.hid (EvSlice.of_owns o5); have h5 := hEF.chg c5; have C5 := Lib.hid (C0.quiet c5); have S5 := Lib.hid (S0.out.quiet c5)
        refine hK _ _ ⟨fun _ => h5, ?_⟩
        clear hK K o5 c5 S0 hEF C0
        try simp only [Act.put, List.getElem_toArray, List.getElem_cons_succ, List.getElem_cons_zero, List.setIfInBounds_toArray, List.set_cons_zero, List.set_cons_succ]
        refine wpAnyU_all (rs := [6]) (by kernel_rfl) (by simp) (fun i hi => ?_)
        obtain rfl : i = 6 := by simpa using hi
        refine wpOpU_stepG rfl (by rfl) (fun K hK => ?_)
        go_simp
        refine (plainEv_any O5.out (EvE.out.chg C5.out) (by omega)).mono ?_
        rintro e w6 ⟨he, hc⟩
        rw [decide_eq_true rfl] at he
        subst he
        have h6 := h5.chg hc; have C6 := Lib.hid (C5.out.quiet hc); have S6 := Lib.hid (S5.out.quiet hc)
        refine hK _ _ ⟨fun _ => h6, ?_⟩
        clear hK K hc h5 C5 S5 O5
        try simp only [Act.put, List.getElem_toArray, List.getElem_cons_succ, List.getElem_cons_zero, List.setIfInBounds_toArray, List.set_cons_zero, List.set_cons_succ]
        refine wpAnyU_take (i := 7) (v := .bool true) rfl (by kernel_rfl) (by kernel_rfl) (by kernel_rfl) (by kernel_rfl) (fun _ _ _ h => h) (Or.inl ⟨by rfl, fun w' hS => by go_simp⟩) h6 ?_
        try simp only [Act.put, List.getElem_toArray, List.getElem_cons_succ, List.getElem_cons_zero, List.setIfInBounds_toArray, List.set_cons_zero, List.set_cons_succ]
        refine wpAnyU_take (i := 8) (v := .pointer (some ⟨n, 0, none⟩)) rfl (by kernel_rfl) (by kernel_rfl) (by kernel_rfl) (by kernel_rfl) (fun _ _ _ h => h) (Or.inl ⟨by rfl, fun w' hS => by go_simp⟩) h6 ?_
        try simp only [Act.put, List.getElem_toArray, List.getElem_cons_succ, List.getElem_cons_zero, List.setIfInBounds_toArray, List.set_cons_zero, List.set_cons_succ]
        refine wpAnyU_take (i := 10) (v := .pointer (some ⟨y, 0, none⟩)) rfl (by kernel_rfl) (by kernel_rfl) (by kernel_rfl) (by kernel_rfl) (fun _ _ _ h => h) (Or.inl ⟨by rfl, fun w' hS => by go_simp⟩) h6 ?_
        try simp only [Act.put, List.getElem_toArray, List.getElem_cons_succ, List.getElem_cons_zero, List.setIfInBounds_toArray, List.set_cons_zero, List.set_cons_succ]
        refine wpAnyU_take (i := 11) (v := .pointer (some ⟨y, 0, none⟩)) rfl (by kernel_rfl) (by kernel_rfl) (by kernel_rfl) (by kernel_rfl) (fun _ _ _ h => h) (Or.inl ⟨by rfl, fun w' hS => by go_simp⟩) h6 ?_
        try simp only [Act.put, List.getElem_toArray, List.getElem_cons_succ, List.getElem_cons_zero, List.setIfInBounds_toArray, List.set_cons_zero, List.set_cons_succ]
        refine wpAnyU_take (i := 12) (v := .pointer (some ⟨y, 2, none⟩)) rfl (by kernel_rfl) (by kernel_rfl) (by kernel_rfl) (by kernel_rfl) (fun _ _ _ h => h) (Or.inl ⟨by rfl, fun w' hS => by go_simp⟩) h6 ?_
        try simp only [Act.put, List.getElem_toArray, List.getElem_cons_succ, List.getElem_cons_zero, List.setIfInBounds_toArray, List.set_cons_zero, List.set_cons_succ]
        refine wpAnyU_take (i := 13) (v := .slice oF τ.log.length cF) rfl (by kernel_rfl) (by kernel_rfl) (by kernel_rfl) (by kernel_rfl) (fun _ _ _ h => h) (Or.inl ⟨by rfl, fun w' hS => by (obtain ⟨t0, t1⟩ := hS; go_simp)⟩) h6 ?_
        try simp only [Act.put, List.getElem_toArray, List.getElem_cons_succ, List.getElem_cons_zero, List.setIfInBounds_toArray, List.set_cons_zero, List.set_cons_succ]
        refine wpAnyU_all (rs := [9]) (by kernel_rfl) (by simp) (fun i hi => ?_)
        obtain rfl : i = 9 := by simpa using hi
        refine wpOpU_stepG rfl (by rfl) (fun K hK => ?_)
        go_simp
        refine (events0 S6.out.swap22 (by omega)).mono ?_
        rintro e w7 ⟨v7, rfl, o7, c7, _⟩
        have O7 := Lib.hid (EvSlice.of_owns o7); have h7 := h6.chg c7; have C7 := Lib.hid (C6.out.quiet c7)
        refine hK _ _ ⟨fun _ => h7, ?_⟩
        clear hK K o7 c7 h6 C6 S6
        try simp only [Act.put, List.getElem_toArray, List.getElem_cons_succ, List.getElem_cons_zero, List.setIfInBounds_toArray, List.set_cons_zero, List.set_cons_succ]
        refine wpAnyU_all (rs := [14]) (by kernel_rfl) (by simp) (fun i hi => ?_)
        obtain rfl : i = 14 := by simpa using hi
        refine wpOpU_stepG rfl (by rfl) (fun K hK => ?_)
        go_simp
        refine (plainEv_any O7.out (EvF.out.chg C7.out) (by omega)).mono ?_
        rintro e w8 ⟨he, hc⟩
        rw [decide_eq_true rfl] at he
        subst he
        have h8 := h7.chg hc; have C8 := Lib.hid (C7.out.quiet hc)
        refine hK _ _ ⟨fun _ => h8, ?_⟩
        clear hK K hc h7 C7 O7
        try simp only [Act.put, List.getElem_toArray, List.getElem_cons_succ, List.getElem_cons_zero, List.setIfInBounds_toArray, List.set_cons_zero, List.set_cons_succ]
        refine wpAnyU_take (i := 15) (v := .bool true) rfl (by kernel_rfl) (by kernel_rfl) (by kernel_rfl) (by kernel_rfl) (fun _ _ _ h => h) (Or.inl ⟨by rfl, fun w' hS => by go_simp⟩) h8 ?_
        try simp only [Act.put, List.getElem_toArray, List.getElem_cons_succ, List.getElem_cons_zero, List.setIfInBounds_toArray, List.set_cons_zero, List.set_cons_succ]
        refine wpAnyU_take (i := 16) (v := .bool true) rfl (by kernel_rfl) (by kernel_rfl) (by kernel_rfl) (by kernel_rfl) (fun _ _ _ h => h) (Or.inl ⟨by rfl, fun w' hS => by go_simp⟩) h8 ?_
        try simp only [Act.put, List.getElem_toArray, List.getElem_cons_succ, List.getElem_cons_zero, List.setIfInBounds_toArray, List.set_cons_zero, List.set_cons_succ]
        refine wpAnyU_done (by kernel_rfl) ?_ _
        go_wp2
        go_ret
        exact ⟨rfl, ((Sr.out.quiet C8.out).below)⟩
    · have ek : k = n1 := by omega
      obtain ⟨oE, cE, hE, evE⟩ := Sr.out.ev1
      obtain ⟨oF, cF, hF, evF⟩ := Sr.out.ev3
      have EvE := Lib.hid evE; have EvF := Lib.hid evF
      clear evE evF
      have hEF : TwoEv x y (.slice oE σ.log.length cE) (.slice oF τ.log.length cF) wr.drew := ⟨hE, hF⟩
      clear hE hF
      go_wp2_with fail
      refine wp_region_any (by kernel_rfl) ?_
      change wpAny _ _ _ _ _ _ _ wr.drew
      have C0 : Chg [] wr wr.drew := (Chg.refl _ _).drew
      have S0 := Lib.hid Sr.out.drew
      generalize wr.drew = c0 at hEF C0 S0 ⊢
      refine wpAny_take (i := 0) (v := .pointer (some ⟨m, 0, none⟩)) rfl (by kernel_rfl) (by kernel_rfl) (by kernel_rfl) (fun _ _ _ h => h) (Or.inl ⟨by rfl, fun w' => by go_simp⟩) ?_
      try simp only [Act.put, List.getElem_toArray, List.getElem_cons_succ, List.getElem_cons_zero, List.setIfInBounds_toArray, List.set_cons_zero, List.set_cons_succ]
      refine wpAny_take (i := 2) (v := .pointer (some ⟨x, 0, none⟩)) rfl (by kernel_rfl) (by kernel_rfl) (by kernel_rfl) (fun _ _ _ h => h) (Or.inl ⟨by rfl, fun w' => by go_simp⟩) ?_
      try simp only [Act.put, List.getElem_toArray, List.getElem_cons_succ, List.getElem_cons_zero, List.setIfInBounds_toArray, List.set_cons_zero, List.set_cons_succ]
      refine wpAny_take (i := 3) (v := .pointer (some ⟨x, 0, none⟩)) rfl (by kernel_rfl) (by kernel_rfl) (by kernel_rfl) (fun _ _ _ h => h) (Or.inl ⟨by rfl, fun w' => by go_simp⟩) ?_
      try simp only [Act.put, List.getElem_toArray, List.getElem_cons_succ, List.getElem_cons_zero, List.setIfInBounds_toArray, List.set_cons_zero, List.set_cons_succ]
      refine wpAny_take (i := 4) (v := .pointer (some ⟨x, 2, none⟩)) rfl (by kernel_rfl) (by kernel_rfl) (by kernel_rfl) (fun _ _ _ h => h) (Or.inl ⟨by rfl, fun w' => by go_simp⟩) ?_
      try simp only [Act.put, List.getElem_toArray, List.getElem_cons_succ, List.getElem_cons_zero, List.setIfInBounds_toArray, List.set_cons_zero, List.set_cons_succ]
      refine wpAny_of_U (S := TwoEv x y (.slice oE σ.log.length cE) (.slice oF τ.log.length cF)) (U := [1, 5, 6, 7, 8, 9, 10, 11, 12, 13, 14, 15, 16]) _ _ _ _ ?_
      refine wpAnyU_take (i := 5) (v := .slice oE σ.log.length cE) rfl (by kernel_rfl) (by kernel_rfl) (by kernel_rfl) (by kernel_rfl) (fun _ _ _ h => h) (Or.inl ⟨by rfl, fun w' hS => by (obtain ⟨t0, t1⟩ := hS; go_simp)⟩) hEF ?_
      try simp only [Act.put, List.getElem_toArray, List.getElem_cons_succ, List.getElem_cons_zero, List.setIfInBounds_toArray, List.set_cons_zero, List.set_cons_succ]
      refine wpAnyU_all (rs := [1]) (by kernel_rfl) (by simp) (fun i hi => ?_)
      obtain rfl : i = 1 := by simpa using hi
      refine wpOpU_stepG rfl (by rfl) (fun K hK => ?_)
      go_simp
      refine (events0 S0.out (by omega)).mono ?_
      rintro e w5 ⟨v5, rfl, o5, c5, _⟩
      have O5 := Lib.hid (EvSlice.of_owns o5); have h5 := hEF.chg c5; have C5 := Lib.hid (C0.quiet c5); have S5 := Lib.hid (S0.out.quiet c5)
      refine hK _ _ ⟨fun _ => h5, ?_⟩
      clear hK K o5 c5 S0 hEF C0
      try simp only [Act.put, List.getElem_toArray, List.getElem_cons_succ, List.getElem_cons_zero, List.setIfInBounds_toArray, List.set_cons_zero, List.set_cons_succ]
      refine wpAnyU_all (rs := [6]) (by kernel_rfl) (by simp) (fun i hi => ?_)
      obtain rfl : i = 6 := by simpa using hi
      refine wpOpU_stepG rfl (by rfl) (fun K hK => ?_)
      go_simp
      refine (plainEv_any O5.out (EvE.out.chg C5.out) (by omega)).mono ?_
      rintro e w6 ⟨he, hc⟩
      rw [decide_eq_true rfl] at he
      subst he
      have h6 := h5.chg hc; have C6 := Lib.hid (C5.out.quiet hc); have S6 := Lib.hid (S5.out.quiet hc)
      refine hK _ _ ⟨fun _ => h6, ?_⟩
      clear hK K hc h5 C5 S5 O5
      try simp only [Act.put, List.getElem_toArray, List.getElem_cons_succ, List.getElem_cons_zero, List.setIfInBounds_toArray, List.set_cons_zero, List.set_cons_succ]
      refine wpAnyU_take (i := 7) (v := .bool true) rfl (by kernel_rfl) (by kernel_rfl) (by kernel_rfl) (by kernel_rfl) (fun _ _ _ h => h) (Or.inl ⟨by rfl, fun w' hS => by go_simp⟩) h6 ?_
      try simp only [Act.put, List.getElem_toArray, List.getElem_cons_succ, List.getElem_cons_zero, List.setIfInBounds_toArray, List.set_cons_zero, List.set_cons_succ]
      refine wpAnyU_take (i := 8) (v := .pointer (some ⟨n, 0, none⟩)) rfl (by kernel_rfl) (by kernel_rfl) (by kernel_rfl) (by kernel_rfl) (fun _ _ _ h => h) (Or.inl ⟨by rfl, fun w' hS => by go_simp⟩) h6 ?_
      try simp only [Act.put, List.getElem_toArray, List.getElem_cons_succ, List.getElem_cons_zero, List.setIfInBounds_toArray, List.set_cons_zero, List.set_cons_succ]
      refine wpAnyU_take (i := 10) (v := .pointer (some ⟨y, 0, none⟩)) rfl (by kernel_rfl) (by kernel_rfl) (by kernel_rfl) (by kernel_rfl) (fun _ _ _ h => h) (Or.inl ⟨by rfl, fun w' hS => by go_simp⟩) h6 ?_
      try simp only [Act.put, List.getElem_toArray, List.getElem_cons_succ, List.getElem_cons_zero, List.setIfInBounds_toArray, List.set_cons_zero, List.set_cons_succ]
      refine wpAnyU_take (i := 11) (v := .pointer (some ⟨y, 0, none⟩)) rfl (by kernel_rfl) (by kernel_rfl) (by kernel_rfl) (by kernel_rfl) (fun _ _ _ h => h) (Or.inl ⟨by rfl, fun w' hS => by go_simp⟩) h6 ?_
      try simp only [Act.put, List.getElem_toArray, List.getElem_cons_succ, List.getElem_cons_zero, List.setIfInBounds_toArray, List.set_cons_zero, List.set_cons_succ]
      refine wpAnyU_take (i := 12) (v := .pointer (some ⟨y, 2, none⟩)) rfl (by kernel_rfl) (by kernel_rfl) (by kernel_rfl) (by kernel_rfl) (fun _ _ _ h => h) (Or.inl ⟨by rfl, fun w' hS => by go_simp⟩) h6 ?_
      try simp only [Act.put, List.getElem_toArray, List.getElem_cons_succ, List.getElem_cons_zero, List.setIfInBounds_toArray, List.set_cons_zero, List.set_cons_succ]
      refine wpAnyU_take (i := 13) (v := .slice oF τ.log.length cF) rfl (by kernel_rfl) (by kernel_rfl) (by kernel_rfl) (by kernel_rfl) (fun _ _ _ h => h) (Or.inl ⟨by rfl, fun w' hS => by (obtain ⟨t0, t1⟩ := hS; go_simp)⟩) h6 ?_
      try simp only [Act.put, List.getElem_toArray, List.getElem_cons_succ, List.getElem_cons_zero, List.setIfInBounds_toArray, List.set_cons_zero, List.set_cons_succ]
      refine wpAnyU_all (rs := [9]) (by kernel_rfl) (by simp) (fun i hi => ?_)
      obtain rfl : i = 9 := by simpa using hi
      refine wpOpU_stepG rfl (by rfl) (fun K hK => ?_)
      go_simp
      refine (events0 S6.out.swap22 (by omega)).mono ?_
      rintro e w7 ⟨v7, rfl, o7, c7, _⟩
      have O7 := Lib.hid (EvSlice.of_owns o7); have h7 := h6.chg c7; have C7 := Lib.hid (C6.out.quiet c7)
      refine hK _ _ ⟨fun _ => h7, ?_⟩
      clear hK K o7 c7 h6 C6 S6
      try simp only [Act.put, List.getElem_toArray, List.getElem_cons_succ, List.getElem_cons_zero, List.setIfInBounds_toArray, List.set_cons_zero, List.set_cons_succ]
      refine wpAnyU_all (rs := [14]) (by kernel_rfl) (by simp) (fun i hi => ?_)
      obtain rfl : i = 14 := by simpa using hi
      refine wpOpU_stepG rfl (by rfl) (fun K hK => ?_)
      go_simp
      refine (plainEv_any O7.out (EvF.out.chg C7.out) (by omega)).mono ?_
      rintro e w8 ⟨he, hc⟩
      rw [decide_eq_true rfl] at he
      subst he
      have h8 := h7.chg hc; have C8 := Lib.hid (C7.out.quiet hc)
      refine hK _ _ ⟨fun _ => h8, ?_⟩
      clear hK K hc h7 C7 O7
      try simp only [Act.put, List.getElem_toArray, List.getElem_cons_succ, List.getElem_cons_zero, List.setIfInBounds_toArray, List.set_cons_zero, List.set_cons_succ]
      refine wpAnyU_take (i := 15) (v := .bool true) rfl (by kernel_rfl) (by kernel_rfl) (by kernel_rfl) (by kernel_rfl) (fun _ _ _ h => h) (Or.inl ⟨by rfl, fun w' hS => by go_simp⟩) h8 ?_
      try simp only [Act.put, List.getElem_toArray, List.getElem_cons_succ, List.getElem_cons_zero, List.setIfInBounds_toArray, List.set_cons_zero, List.set_cons_succ]
      refine wpAnyU_take (i := 16) (v := .bool true) rfl (by kernel_rfl) (by kernel_rfl) (by kernel_rfl) (by kernel_rfl) (fun _ _ _ h => h) (Or.inl ⟨by rfl, fun w' hS => by go_simp⟩) h8 ?_
      try simp only [Act.put, List.getElem_toArray, List.getElem_cons_succ, List.getElem_cons_zero, List.setIfInBounds_toArray, List.set_cons_zero, List.set_cons_succ]
      refine wpAnyU_done (by kernel_rfl) ?_ _
      go_wp2
      go_ret
      exact ⟨rfl, ((Sr.out.quiet C8.out).below)⟩
end Go.Proofs.Ytcbipbnomgdklaa
