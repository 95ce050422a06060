/- MemPlays: whatever is done to both memories, they tell the same. -/
import Derived.Test.YtcbipbnomgdklaaUses
namespace Go.Proofs.Ytcbipbnomgdklaa
open Go Go.RowKit Go.Maps

set_option maxHeartbeats 8000000 in
set_option maxRecDepth 20000 in
theorem memPlays_row {w : World} (v : Value) (L : List Us) (_ : True) (h : UsesAt w v L) :
    Calls Try.prog 5 #[v] w fun e w' => e = .returned (.bool true) ∧ Below w.heap.size w w' := by
  obtain ⟨oa, cp, rfl, hlc, hcm, hel⟩ := h.form
  obtain ⟨n, hn⟩ : ∃ n, n = L.length := ⟨_, rfl⟩
  rw [← hn] at hlc ⊢
  have Hel := Lib.hid hel; have Hn := Lib.hid hn; have S0 := Lib.hid (Scope.empty w)
  clear hel hn h
  go_enter Try.func5, Try.ntmps5
  go_wp2_with fail
  refine (new_scope S0.out).mono ?_
  rintro e w1 ⟨m, rfl, s1⟩
  have S1 := Lib.hid (ref_new s1)
  clear s1
  go_wp2_with fail
  generalize w1.heap.size = x at S1 ⊢
  refine (awake16_scope S1.out).mono ?_
  rintro e w2 ⟨rfl, s2⟩
  have S2 := Lib.hid s2
  clear s2 S1
  go_wp2_with fail
  go_loopw [5] (fun i wr => ∃ (k : Nat) (σ : MS), k ≤ n ∧ k ≤ 80 ∧ i = .int .i64 k ∧ σ.log.length ≤ k ∧ Scope [] w wr [memA m σ, refA x (2 * k) σ]) (fun i _ => n - (intOf i).toNat)
  case atStart => exact ⟨0, MS.zero, by omega, by omega, rfl, by simp [MS.zero], S2.out⟩
  case round =>
    obtain ⟨k, σ, hk, hk2, rfl, hlg, hs⟩ := hrel
    have Sr := Lib.hid hs
    clear hs S2
    by_cases hlt : k < n
    · by_cases h80 : k < 80
      · obtain ⟨u, hu⟩ : ∃ u, L[k]? = some u := ⟨_, List.getElem?_eq_getElem (by rw [← Hn.out]; exact hlt)⟩
        obtain ⟨hw, g, off, rfl, hc⟩ := Hel.out k u hu
        obtain ⟨d0, d1, d2, d3, d4, d5, d6, d7, d8⟩ := hc wr Sr.out.1
        have Hw := Lib.hid hw
        clear hc hu hw
        have i1 : (k : Int) < (n : Int) := by omega
        have i0 : (0 : Int) ≤ (k : Int) := by omega
        go_wp2_with fail
        refine wp_region_any (by kernel_rfl) ?_
        change wpAny _ _ _ _ _ _ _ wr.drew
        refine wpAny_take (i := 0) (v := .pointer (some ⟨m, 0, none⟩)) rfl (by kernel_rfl) (by kernel_rfl) (by kernel_rfl) (fun _ _ _ h => h) (Or.inl ⟨by rfl, fun w' => by go_simp⟩) ?_
        try simp only [Act.put, List.getElem_toArray, List.getElem_cons_succ, List.getElem_cons_zero, List.setIfInBounds_toArray, List.set_cons_zero, List.set_cons_succ]
        refine wpAny_take (i := 1) (v := .pointer (some ⟨x, 0, none⟩)) rfl (by kernel_rfl) (by kernel_rfl) (by kernel_rfl) (fun _ _ _ h => h) (Or.inl ⟨by rfl, fun w' => by go_simp⟩) ?_
        try simp only [Act.put, List.getElem_toArray, List.getElem_cons_succ, List.getElem_cons_zero, List.setIfInBounds_toArray, List.set_cons_zero, List.set_cons_succ]
        refine wpAny_take (i := 2) (v := .slice (some ⟨g, off, none⟩) n cp) rfl (by kernel_rfl) (by kernel_rfl) (by kernel_rfl) (fun _ _ _ h => h) (Or.inl ⟨by rfl, fun w' => by go_simp⟩) ?_
        try simp only [Act.put, List.getElem_toArray, List.getElem_cons_succ, List.getElem_cons_zero, List.setIfInBounds_toArray, List.set_cons_zero, List.set_cons_succ]
        refine wpAny_take (i := 3) (v := .int .i64 k) rfl (by kernel_rfl) (by kernel_rfl) (by kernel_rfl) (fun _ _ _ h => h) (Or.inl ⟨by rfl, fun w' => by go_simp⟩) ?_
        try simp only [Act.put, List.getElem_toArray, List.getElem_cons_succ, List.getElem_cons_zero, List.setIfInBounds_toArray, List.set_cons_zero, List.set_cons_succ]
        refine wpAny_take (i := 4) (v := .pointer (some ⟨g, off + k * 9, none⟩)) rfl (by kernel_rfl) (by kernel_rfl) (by kernel_rfl) (fun _ _ _ h => h) (Or.inl ⟨by rfl, fun w' => by go_simp⟩) ?_
        try simp only [Act.put, List.getElem_toArray, List.getElem_cons_succ, List.getElem_cons_zero, List.setIfInBounds_toArray, List.set_cons_zero, List.set_cons_succ]
        generalize off + k * 9 = o at d0 d1 d2 d3 d4 d5 d6 d7 d8 ⊢
        refine wpAny_all (rs := [5]) (by kernel_rfl) (by simp) (fun i hi => ?_)
        obtain rfl : i = 5 := by simpa using hi
        refine wpOpU_stepG rfl (by rfl) (fun K hK => ?_)
        go_simp
        refine hK _ _ ?_
        clear hK K
        try simp only [Act.put, List.getElem_toArray, List.getElem_cons_succ, List.getElem_cons_zero, List.setIfInBounds_toArray, List.set_cons_zero, List.set_cons_succ]
        refine wpAny_all (rs := [6]) (by kernel_rfl) (by simp) (fun i hi => ?_)
        obtain rfl : i = 6 := by simpa using hi
        refine wpOpU_stepG rfl (by rfl) (fun K hK => ?_)
        go_simp
        refine (step_any Sr.out.drew Hw.out (by omega) (by omega)).mono ?_
        rintro e w3 ⟨rfl, σ', hlg', s3⟩
        obtain ⟨oE, cE, hE, _⟩ := s3.ev1
        have S3 := Lib.hid s3
        refine hK _ _ ?_
        clear hK K s3 d0 d1 d2 d3 d4 d5 d6 d7 d8
        try simp only [Act.put, List.getElem_toArray, List.getElem_cons_succ, List.getElem_cons_zero, List.setIfInBounds_toArray, List.set_cons_zero, List.set_cons_succ]
        refine wpAny_take (i := 7) (v := .bool false) rfl (by kernel_rfl) (by kernel_rfl) (by kernel_rfl) (fun _ _ _ h => h) (Or.inl ⟨by rfl, fun w' => by go_simp⟩) ?_
        try simp only [Act.put, List.getElem_toArray, List.getElem_cons_succ, List.getElem_cons_zero, List.setIfInBounds_toArray, List.set_cons_zero, List.set_cons_succ]
        refine wpAny_take (i := 8) (v := .bool false) rfl (by kernel_rfl) (by kernel_rfl) (by kernel_rfl) (fun _ _ _ h => h) (Or.inl ⟨by rfl, fun w' => by go_simp⟩) ?_
        try simp only [Act.put, List.getElem_toArray, List.getElem_cons_succ, List.getElem_cons_zero, List.setIfInBounds_toArray, List.set_cons_zero, List.set_cons_succ]
        refine wpAny_take (i := 9) (v := .pointer (some ⟨m, 0, none⟩)) rfl (by kernel_rfl) (by kernel_rfl) (by kernel_rfl) (fun _ _ _ h => h) (Or.inl ⟨by rfl, fun w' => by go_simp⟩) ?_
        try simp only [Act.put, List.getElem_toArray, List.getElem_cons_succ, List.getElem_cons_zero, List.setIfInBounds_toArray, List.set_cons_zero, List.set_cons_succ]
        refine wpAny_take (i := 11) (v := .pointer (some ⟨x, 0, none⟩)) rfl (by kernel_rfl) (by kernel_rfl) (by kernel_rfl) (fun _ _ _ h => h) (Or.inl ⟨by rfl, fun w' => by go_simp⟩) ?_
        try simp only [Act.put, List.getElem_toArray, List.getElem_cons_succ, List.getElem_cons_zero, List.setIfInBounds_toArray, List.set_cons_zero, List.set_cons_succ]
        refine wpAny_take (i := 12) (v := .pointer (some ⟨x, 0, none⟩)) rfl (by kernel_rfl) (by kernel_rfl) (by kernel_rfl) (fun _ _ _ h => h) (Or.inl ⟨by rfl, fun w' => by go_simp⟩) ?_
        try simp only [Act.put, List.getElem_toArray, List.getElem_cons_succ, List.getElem_cons_zero, List.setIfInBounds_toArray, List.set_cons_zero, List.set_cons_succ]
        refine wpAny_take (i := 13) (v := .pointer (some ⟨x, 2, none⟩)) rfl (by kernel_rfl) (by kernel_rfl) (by kernel_rfl) (fun _ _ _ h => h) (Or.inl ⟨by rfl, fun w' => by go_simp⟩) ?_
        try simp only [Act.put, List.getElem_toArray, List.getElem_cons_succ, List.getElem_cons_zero, List.setIfInBounds_toArray, List.set_cons_zero, List.set_cons_succ]
        refine wpAny_of_U (S := fun w' => w'.cell? ⟨x, 2, none⟩ = some (.slice oE σ'.log.length cE)) (U := [10, 14, 15, 16, 17]) _ _ _ _ ?_
        refine wpAnyU_take (i := 14) (v := .slice oE σ'.log.length cE) rfl (by kernel_rfl) (by kernel_rfl) (by kernel_rfl) (by kernel_rfl) (fun _ _ _ h => h) (Or.inl ⟨by rfl, fun w' hS => by go_simp⟩) hE ?_
        try simp only [Act.put, List.getElem_toArray, List.getElem_cons_succ, List.getElem_cons_zero, List.setIfInBounds_toArray, List.set_cons_zero, List.set_cons_succ]
        refine wpAnyU_take (i := 15) (v := .int .i64 σ'.log.length) rfl (by kernel_rfl) (by kernel_rfl) (by kernel_rfl) (by kernel_rfl) (fun _ _ _ h => h) (Or.inl ⟨by rfl, fun w' hS => by go_simp⟩) hE ?_
        try simp only [Act.put, List.getElem_toArray, List.getElem_cons_succ, List.getElem_cons_zero, List.setIfInBounds_toArray, List.set_cons_zero, List.set_cons_succ]
        refine wpAnyU_all (rs := [10]) (by kernel_rfl) (by simp) (fun i hi => ?_)
        obtain rfl : i = 10 := by simpa using hi
        refine wpOpU_stepG rfl (by rfl) (fun K hK => ?_)
        go_simp
        refine (len0 S3.out (by omega)).mono ?_
        rintro e w4 ⟨rfl, rfl⟩
        refine hK _ _ ⟨fun _ => hE, ?_⟩
        clear hK K
        try simp only [Act.put, List.getElem_toArray, List.getElem_cons_succ, List.getElem_cons_zero, List.setIfInBounds_toArray, List.set_cons_zero, List.set_cons_succ]
        refine wpAnyU_take (i := 16) (v := .bool false) rfl (by kernel_rfl) (by kernel_rfl) (by kernel_rfl) (by kernel_rfl) (fun _ _ _ h => h) (Or.inl ⟨by rfl, fun w' hS => by go_simp⟩) hE ?_
        try simp only [Act.put, List.getElem_toArray, List.getElem_cons_succ, List.getElem_cons_zero, List.setIfInBounds_toArray, List.set_cons_zero, List.set_cons_succ]
        refine wpAnyU_take (i := 17) (v := .bool false) rfl (by kernel_rfl) (by kernel_rfl) (by kernel_rfl) (by kernel_rfl) (fun _ _ _ h => h) (Or.inl ⟨by rfl, fun w' hS => by go_simp⟩) hE ?_
        try simp only [Act.put, List.getElem_toArray, List.getElem_cons_succ, List.getElem_cons_zero, List.setIfInBounds_toArray, List.set_cons_zero, List.set_cons_succ]
        refine wpAnyU_rest _ _ _ _ (fun j hj => ?_) ?_
        · simp at hj; rcases hj with rfl | rfl | rfl | rfl | rfl <;> rfl
        refine wpAny_done (by kernel_rfl) ?_ _
        clear hE
        go_wp2
        go_roundw
        case rel => exact ⟨k + 1, σ', by omega, by omega, by go_num, by omega, S3.out.up1 (by omega)⟩
        case measure => simp [intOf]; omega
      · have e80 : k = 80 := by omega
        obtain ⟨oE, cE, hE, evE⟩ := Sr.out.ev1
        have HE := Lib.hid hE; have EvE := Lib.hid evE
        clear hE evE
        go_wp2_with fail
        refine wp_region_any (by kernel_rfl) ?_
        change wpAny _ _ _ _ _ _ _ wr.drew
        have E0 : (fun w' : World => w'.cell? ⟨x, 2, none⟩ = some (.slice oE σ.log.length cE)) wr.drew := HE.out
        refine wpAny_take (i := 0) (v := .pointer (some ⟨m, 0, none⟩)) rfl (by kernel_rfl) (by kernel_rfl) (by kernel_rfl) (fun _ _ _ h => h) (Or.inl ⟨by rfl, fun w' => by go_simp⟩) ?_
        try simp only [Act.put, List.getElem_toArray, List.getElem_cons_succ, List.getElem_cons_zero, List.setIfInBounds_toArray, List.set_cons_zero, List.set_cons_succ]
        refine wpAny_take (i := 2) (v := .pointer (some ⟨x, 0, none⟩)) rfl (by kernel_rfl) (by kernel_rfl) (by kernel_rfl) (fun _ _ _ h => h) (Or.inl ⟨by rfl, fun w' => by go_simp⟩) ?_
        try simp only [Act.put, List.getElem_toArray, List.getElem_cons_succ, List.getElem_cons_zero, List.setIfInBounds_toArray, List.set_cons_zero, List.set_cons_succ]
        refine wpAny_take (i := 3) (v := .pointer (some ⟨x, 0, none⟩)) rfl (by kernel_rfl) (by kernel_rfl) (by kernel_rfl) (fun _ _ _ h => h) (Or.inl ⟨by rfl, fun w' => by go_simp⟩) ?_
        try simp only [Act.put, List.getElem_toArray, List.getElem_cons_succ, List.getElem_cons_zero, List.setIfInBounds_toArray, List.set_cons_zero, List.set_cons_succ]
        refine wpAny_take (i := 4) (v := .pointer (some ⟨x, 2, none⟩)) rfl (by kernel_rfl) (by kernel_rfl) (by kernel_rfl) (fun _ _ _ h => h) (Or.inl ⟨by rfl, fun w' => by go_simp⟩) ?_
        try simp only [Act.put, List.getElem_toArray, List.getElem_cons_succ, List.getElem_cons_zero, List.setIfInBounds_toArray, List.set_cons_zero, List.set_cons_succ]
        refine wpAny_of_U (S := fun w' => w'.cell? ⟨x, 2, none⟩ = some (.slice oE σ.log.length cE)) (U := [1, 5, 6]) _ _ _ _ ?_
        refine wpAnyU_take (i := 5) (v := .slice oE σ.log.length cE) rfl (by kernel_rfl) (by kernel_rfl) (by kernel_rfl) (by kernel_rfl) (fun _ _ _ h => h) (Or.inl ⟨by rfl, fun w' hS => by go_simp⟩) E0 ?_
        try simp only [Act.put, List.getElem_toArray, List.getElem_cons_succ, List.getElem_cons_zero, List.setIfInBounds_toArray, List.set_cons_zero, List.set_cons_succ]
        refine wpAnyU_all (rs := [1]) (by kernel_rfl) (by simp) (fun i hi => ?_)
        obtain rfl : i = 1 := by simpa using hi
        refine wpOpU_stepG rfl (by rfl) (fun K hK => ?_)
        go_simp
        refine (events0 Sr.out.drew (by omega)).mono ?_
        rintro e w5 ⟨v5, rfl, o5, c5, _⟩
        refine hK _ _ ⟨fun _ => c5.cell E0 (by simp), ?_⟩
        clear hK K
        try simp only [Act.put, List.getElem_toArray, List.getElem_cons_succ, List.getElem_cons_zero, List.setIfInBounds_toArray, List.set_cons_zero, List.set_cons_succ]
        have O5 := Lib.hid (EvSlice.of_owns o5); have C5 := Lib.hid c5
        clear o5 c5
        refine wpAnyU_all (rs := [6]) (by kernel_rfl) (by simp) (fun i hi => ?_)
        obtain rfl : i = 6 := by simpa using hi
        refine wpOpU_stepG rfl (by rfl) (fun K hK => ?_)
        go_simp
        refine (plainEv_any O5.out (EvE.out.chg ((Chg.refl [] wr).drew.quiet C5.out)) (by omega)).mono ?_
        rintro e w6 ⟨he, hc⟩
        rw [decide_eq_true rfl] at he
        subst he
        refine hK _ _ ⟨fun _ => hc.cell (C5.out.cell E0 (by simp)) (by simp), ?_⟩
        clear hK K
        have C6 := Lib.hid hc
        clear hc
        try simp only [Act.put, List.getElem_toArray, List.getElem_cons_succ, List.getElem_cons_zero, List.setIfInBounds_toArray, List.set_cons_zero, List.set_cons_succ]
        refine wpAnyU_rest _ _ _ _ (fun j hj => ?_) ?_
        · simp at hj; rcases hj with rfl | rfl | rfl <;> rfl
        refine wpAny_all (rs := [7]) (by kernel_rfl) (by simp) (fun i hi => ?_)
        obtain rfl : i = 7 := by simpa using hi
        refine wpOpU_stepG rfl (by rfl) (fun K hK => ?_)
        go_simp
        refine hK _ _ ?_
        clear hK K
        try simp only [Act.put, List.getElem_toArray, List.getElem_cons_succ, List.getElem_cons_zero, List.setIfInBounds_toArray, List.set_cons_zero, List.set_cons_succ]
        refine wpAny_done (by kernel_rfl) ?_ _
        go_wp2
        go_ret
        exact ⟨rfl, (((((Sr.out.drew).quiet C5.out).quiet C6.out)).below)⟩
    · have ek : k = n := by omega
      obtain ⟨oE, cE, hE, evE⟩ := Sr.out.ev1
      have HE := Lib.hid hE; have EvE := Lib.hid evE
      clear hE evE
      go_wp2_with fail
      refine wp_region_any (by kernel_rfl) ?_
      change wpAny _ _ _ _ _ _ _ wr.drew
      have E0 : (fun w' : World => w'.cell? ⟨x, 2, none⟩ = some (.slice oE σ.log.length cE)) wr.drew := HE.out
      refine wpAny_take (i := 0) (v := .pointer (some ⟨m, 0, none⟩)) rfl (by kernel_rfl) (by kernel_rfl) (by kernel_rfl) (fun _ _ _ h => h) (Or.inl ⟨by rfl, fun w' => by go_simp⟩) ?_
      try simp only [Act.put, List.getElem_toArray, List.getElem_cons_succ, List.getElem_cons_zero, List.setIfInBounds_toArray, List.set_cons_zero, List.set_cons_succ]
      refine wpAny_take (i := 2) (v := .pointer (some ⟨x, 0, none⟩)) rfl (by kernel_rfl) (by kernel_rfl) (by kernel_rfl) (fun _ _ _ h => h) (Or.inl ⟨by rfl, fun w' => by go_simp⟩) ?_
      try simp only [Act.put, List.getElem_toArray, List.getElem_cons_succ, List.getElem_cons_zero, List.setIfInBounds_toArray, List.set_cons_zero, List.set_cons_succ]
      refine wpAny_take (i := 3) (v := .pointer (some ⟨x, 0, none⟩)) rfl (by kernel_rfl) (by kernel_rfl) (by kernel_rfl) (fun _ _ _ h => h) (Or.inl ⟨by rfl, fun w' => by go_simp⟩) ?_
      try simp only [Act.put, List.getElem_toArray, List.getElem_cons_succ, List.getElem_cons_zero, List.setIfInBounds_toArray, List.set_cons_zero, List.set_cons_succ]
      refine wpAny_take (i := 4) (v := .pointer (some ⟨x, 2, none⟩)) rfl (by kernel_rfl) (by kernel_rfl) (by kernel_rfl) (fun _ _ _ h => h) (Or.inl ⟨by rfl, fun w' => by go_simp⟩) ?_
      try simp only [Act.put, List.getElem_toArray, List.getElem_cons_succ, List.getElem_cons_zero, List.setIfInBounds_toArray, List.set_cons_zero, List.set_cons_succ]
      refine wpAny_of_U (S := fun w' => w'.cell? ⟨x, 2, none⟩ = some (.slice oE σ.log.length cE)) (U := [1, 5, 6]) _ _ _ _ ?_
      refine wpAnyU_take (i := 5) (v := .slice oE σ.log.length cE) rfl (by kernel_rfl) (by kernel_rfl) (by kernel_rfl) (by kernel_rfl) (fun _ _ _ h => h) (Or.inl ⟨by rfl, fun w' hS => by go_simp⟩) E0 ?_
      try simp only [Act.put, List.getElem_toArray, List.getElem_cons_succ, List.getElem_cons_zero, List.setIfInBounds_toArray, List.set_cons_zero, List.set_cons_succ]
      refine wpAnyU_all (rs := [1]) (by kernel_rfl) (by simp) (fun i hi => ?_)
      obtain rfl : i = 1 := by simpa using hi
      refine wpOpU_stepG rfl (by rfl) (fun K hK => ?_)
      go_simp
      refine (events0 Sr.out.drew (by omega)).mono ?_
      rintro e w5 ⟨v5, rfl, o5, c5, _⟩
      refine hK _ _ ⟨fun _ => c5.cell E0 (by simp), ?_⟩
      clear hK K
      try simp only [Act.put, List.getElem_toArray, List.getElem_cons_succ, List.getElem_cons_zero, List.setIfInBounds_toArray, List.set_cons_zero, List.set_cons_succ]
      have O5 := Lib.hid (EvSlice.of_owns o5); have C5 := Lib.hid c5
      clear o5 c5
      refine wpAnyU_all (rs := [6]) (by kernel_rfl) (by simp) (fun i hi => ?_)
      obtain rfl : i = 6 := by simpa using hi
      refine wpOpU_stepG rfl (by rfl) (fun K hK => ?_)
      go_simp
      refine (plainEv_any O5.out (EvE.out.chg ((Chg.refl [] wr).drew.quiet C5.out)) (by omega)).mono ?_
      rintro e w6 ⟨he, hc⟩
      rw [decide_eq_true rfl] at he
      subst he
      refine hK _ _ ⟨fun _ => hc.cell (C5.out.cell E0 (by simp)) (by simp), ?_⟩
      clear hK K
      have C6 := Lib.hid hc
      clear hc
      try simp only [Act.put, List.getElem_toArray, List.getElem_cons_succ, List.getElem_cons_zero, List.setIfInBounds_toArray, List.set_cons_zero, List.set_cons_succ]
      refine wpAnyU_rest _ _ _ _ (fun j hj => ?_) ?_
      · simp at hj; rcases hj with rfl | rfl | rfl <;> rfl
      refine wpAny_all (rs := [7]) (by kernel_rfl) (by simp) (fun i hi => ?_)
      obtain rfl : i = 7 := by simpa using hi
      refine wpOpU_stepG rfl (by rfl) (fun K hK => ?_)
      go_simp
      refine hK _ _ ?_
      clear hK K
      try simp only [Act.put, List.getElem_toArray, List.getElem_cons_succ, List.getElem_cons_zero, List.setIfInBounds_toArray, List.set_cons_zero, List.set_cons_succ]
      refine wpAny_done (by kernel_rfl) ?_ _
      go_wp2
      go_ret
      exact ⟨rfl, (((((Sr.out.drew).quiet C5.out).quiet C6.out)).below)⟩
end Go.Proofs.Ytcbipbnomgdklaa
