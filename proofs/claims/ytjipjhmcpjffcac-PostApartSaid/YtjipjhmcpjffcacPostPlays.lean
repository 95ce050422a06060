/- PostPlays: whatever is done to both, they tell the same. -/
import Derived.Test.YtjipjhmcpjffcacStep20
set_option linter.unusedSimpArgs false
set_option linter.unusedVariables false
set_option maxRecDepth 20000
namespace Go.Proofs.Ytjipjhmcpjffcac
open Go Go.RowKit Go.Maps

section
variable {S : List Nat} {w0 w : World} {X : HA} {As Bs : List HA} {p m ba br q x n : Nat} {W : Int} {σ : MS} {KC : List (Int × Cl)} {JR : List (Int × Rt)}
theorem Scope.refev (h : Scope S w0 w (X :: rpostA q x n W σ KC JR :: Bs)) : ∃ oE cE, w.cell? ⟨x, 2, none⟩ = some (.slice oE σ.log.length cE) ∧ EvSlice w (.slice oE σ.log.length cE) σ.log ∧ w.cell? ⟨q, 0, none⟩ = some (ptr x) := by
  obtain ⟨c, h0⟩ := h.swap2.exo
  have h1 := h0.open1
  obtain ⟨f, ⟨kv, _, _, hR⟩, _⟩ := h1.get 0 rfl
  obtain ⟨oE, cE, h2, h3⟩ := RefAt.ev hR
  exact ⟨oE, cE, h2, h3, (h1.row 1 rfl).cell rfl⟩
theorem post_len0 (h : Scope S w0 w (postA p m ba br W σ KC JR :: Bs)) (hn : σ.log.length ≤ 1000000) : Calls Try.prog 26 #[ptr m] w fun e w' => e = .returned (.int .i64 σ.log.length) ∧ w = w' := by
  obtain ⟨F, h1⟩ := h.exo
  exact len0 h1.open1 hn
theorem post_events0 (h : Scope S w0 w (postA p m ba br W σ KC JR :: Bs)) (hn : σ.log.length ≤ 1000000) : Calls Try.prog 28 #[ptr m] w (Cloned w 74 5 σ.log.length (evs σ.log)) := by
  obtain ⟨F, h1⟩ := h.exo
  exact events0 h1.open1 hn
theorem stars_nil {A : HA} (h : A.holds w []) (hs : (stars As).holds w []) : (stars (A :: As)).holds w [] := ⟨[], [], h, hs, fun _ h => (by cases h), rfl⟩
theorem rp_nil (w : World) : (stars [ownA (.slice none 0 0) 3 1 0 (ikeys ([] : List (Int × Cl))), ownA (.slice none 0 0) 32 4 0 (cvals []), ownA (.slice none 0 0) 3 1 0 (ikeys ([] : List (Int × Rt))), ownA (.slice none 0 0) 41 4 0 (rcells [] []), slA [] []]).holds w [] :=
  stars_nil ⟨⟨rfl, .inl ⟨rfl, rfl⟩⟩, rfl⟩ (stars_nil ⟨⟨rfl, .inl ⟨rfl, rfl⟩⟩, rfl⟩ (stars_nil ⟨⟨rfl, .inl ⟨rfl, rfl⟩⟩, rfl⟩ (stars_nil ⟨⟨rfl, .inl ⟨rfl, rfl⟩⟩, rfl⟩ (stars_mk1 (A := slA [] []) ⟨by simp, rfl, fun i y s h => by simp at h⟩))))
theorem Scope.rpshut (h : Scope S w0 w (X :: (As ++ [refA x 0 MS.zero] ++ [Go.Proofs.Ytjipjhmcpjffcac.box q [ptr x, .int .i64 W, .slice none 0 0, .slice none 0 0, .slice none 0 0, .slice none 0 0] 59]))) : Scope S w0 w (X :: rpostA q x 0 W MS.zero [] [] :: As) := by
  have h0 := h.join (rp_nil w) (Chg.refl _ _) (by simp)
  have h1 : Scope S w0 w ((X :: As) ++ (rpostL q x 0 W MS.zero [] [] ⟨.slice none 0 0, .slice none 0 0, .slice none 0 0, .slice none 0 0, []⟩)) := by simpa [rpostL] using h0
  have h2 := h1.perm List.perm_append_comm
  have h3 := Scope.shut1 (As := rpostL q x 0 W MS.zero [] [] ⟨.slice none 0 0, .slice none 0 0, .slice none 0 0, .slice none 0 0, []⟩) h2
  exact (Scope.exi (F := fun c => stars (rpostL q x 0 W MS.zero [] [] c)) _ h3).swap2
end

set_option maxHeartbeats 8000000 in
set_option maxRecDepth 20000 in
theorem postPlays_row {w : World} (a : Int) (v : Value) (L : List Tn) (_ : I64 a) (_ : True) (h : TurnsAt w v L) :
    Calls Try.prog 6 #[.int .i64 a, v] w fun e w' => e = .returned (.bool true) ∧ Below w.heap.size w w' := by
  obtain ⟨oa, cp, rfl, hlc, hcm, hel⟩ := h
  obtain ⟨n, hn⟩ : ∃ n, n = L.length := ⟨_, rfl⟩
  rw [← hn] at hlc ⊢
  have Hel := Lib.hid hel; have Hn := Lib.hid hn; have S0 := Lib.hid (Scope.empty w)
  clear hel hn
  go_enter Try.func6, Try.ntmps6
  go_wp2_with fail
  refine (made20_scope S0.out a).mono ?_
  rintro e w1 ⟨m, p, ba, br, q, x, rfl, s1⟩
  have S1 := Lib.hid (Scope.rpshut s1)
  clear s1
  generalize cl6 a = W at S1 ⊢
  go_wp2_with fail
  have hqw1 : w1.cell? ⟨q, 1, none⟩ = some (.int .i64 W) := by
    obtain ⟨c, h1⟩ := S1.out.swap2.exo
    exact (h1.open1.row 1 rfl).cell rfl
  have S1d := Lib.hid S1.out.drew
  go_region_held3 (fun w' => w'.cell? ⟨q, 1, none⟩ = some (.int .i64 W)) (go_keep)
    (first
      | (go_at_call 10
         refine (awake20_scope S1d.out).mono ?_
         rintro e w2 ⟨rfl, s2⟩
         have hqw2 : w2.cell? ⟨q, 1, none⟩ = some (.int .i64 W) := by
           obtain ⟨c, h1⟩ := s2.swap2.exo
           exact (h1.open1.row 1 rfl).cell rfl
         have S2a := Lib.hid s2
         clear s2)
      | (go_at_call 24
         refine (pworkers_does.at0 S2a.out).mono ?_
         rintro e w3 ⟨rfl, s3⟩
         have hqw3 : w3.cell? ⟨q, 1, none⟩ = some (.int .i64 W) := by
           obtain ⟨c, h1⟩ := s3.swap2.exo
           exact (h1.open1.row 1 rfl).cell rfl
         have S2 := Lib.hid s3
         clear s3))
  clear S1 S1d S2a hqw1
  go_wp2_with fail
  go_loopw [8] (fun i wr => ∃ (k : Nat) (σ : MS) (KC : List (Int × Cl)) (JR : List (Int × Rt)), k ≤ n ∧ k ≤ 80 ∧ i = .int .i64 k ∧ σ.log.length ≤ 2 * k ∧ KC.length ≤ k ∧ JR.length ≤ k ∧ Scope [] w wr [postA p m ba br W σ KC JR, rpostA q x (2 * k) W σ KC JR]) (fun i _ => n - (intOf i).toNat)
  case atStart => exact ⟨0, MS.zero, [], [], by omega, by omega, rfl, by simp [MS.zero], by simp, by simp, S2.out⟩
  case round =>
    obtain ⟨k, σ, KC, JR, hk, hk2, rfl, hlg, hkc, hjr, hs⟩ := hrel
    have Sr := Lib.hid hs
    clear hs S2
    by_cases hlt : k < n
    · by_cases h80 : k < 80
      · obtain ⟨t, hu⟩ : ∃ u, L[k]? = some u := ⟨_, List.getElem?_eq_getElem (by rw [← Hn.out]; exact hlt)⟩
        obtain ⟨hw, hok, g, off, s, rfl, hps, hc⟩ := Hel.out k t hu
        have Hw := Lib.hid hw; have Hok := Lib.hid hok; have Hps := Lib.hid hps
        have i1 : (k : Int) < (n : Int) := by omega
        have i0 : (0 : Int) ≤ (k : Int) := by omega
        obtain ⟨⟨d0, d1, d2, d3, d4, d5, d6, d7, d8⟩, ⟨d9, d10, d11, d12⟩, ⟨d13, d14, d15, d16⟩⟩ := hc wr Sr.out.1
        clear hc hu hw hok hps
        go_wp2_with fail
        refine wp_region_any (by kernel_rfl) ?_
        change wpAny _ _ _ _ _ _ _ wr.drew
        refine wpAny_take (i := 0) (v := ?_) rfl (by kernel_rfl) (by kernel_rfl) (by kernel_rfl) (fun _ _ _ h => h) (Or.inl ⟨by rfl, ?_⟩) ?_
        rotate_left 1
        · (intro w'; (try simp only [List.getElem_toArray, List.getElem_cons_succ, List.getElem_cons_zero]); go_simp; (try with_reducible rfl))
        try simp only [Act.put, List.getElem_toArray, List.getElem_cons_succ, List.getElem_cons_zero, List.setIfInBounds_toArray, List.set_cons_zero, List.set_cons_succ]
        refine wpAny_take (i := 1) (v := ?_) rfl (by kernel_rfl) (by kernel_rfl) (by kernel_rfl) (fun _ _ _ h => h) (Or.inl ⟨by rfl, ?_⟩) ?_
        rotate_left 1
        · (intro w'; (try simp only [List.getElem_toArray, List.getElem_cons_succ, List.getElem_cons_zero]); go_simp; (try with_reducible rfl))
        try simp only [Act.put, List.getElem_toArray, List.getElem_cons_succ, List.getElem_cons_zero, List.setIfInBounds_toArray, List.set_cons_zero, List.set_cons_succ]
        refine wpAny_take (i := 2) (v := ?_) rfl (by kernel_rfl) (by kernel_rfl) (by kernel_rfl) (fun _ _ _ h => h) (Or.inl ⟨by rfl, ?_⟩) ?_
        rotate_left 1
        · (intro w'; (try simp only [List.getElem_toArray, List.getElem_cons_succ, List.getElem_cons_zero]); go_simp; (try with_reducible rfl))
        try simp only [Act.put, List.getElem_toArray, List.getElem_cons_succ, List.getElem_cons_zero, List.setIfInBounds_toArray, List.set_cons_zero, List.set_cons_succ]
        refine wpAny_take (i := 3) (v := ?_) rfl (by kernel_rfl) (by kernel_rfl) (by kernel_rfl) (fun _ _ _ h => h) (Or.inl ⟨by rfl, ?_⟩) ?_
        rotate_left 1
        · (intro w'; (try simp only [List.getElem_toArray, List.getElem_cons_succ, List.getElem_cons_zero]); go_simp; (try with_reducible rfl))
        try simp only [Act.put, List.getElem_toArray, List.getElem_cons_succ, List.getElem_cons_zero, List.setIfInBounds_toArray, List.set_cons_zero, List.set_cons_succ]
        refine wpAny_take (i := 4) (v := ?_) rfl (by kernel_rfl) (by kernel_rfl) (by kernel_rfl) (fun _ _ _ h => h) (Or.inl ⟨by rfl, ?_⟩) ?_
        rotate_left 1
        · (intro w'; (try simp only [List.getElem_toArray, List.getElem_cons_succ, List.getElem_cons_zero]); go_simp; (try with_reducible rfl))
        try simp only [Act.put, List.getElem_toArray, List.getElem_cons_succ, List.getElem_cons_zero, List.setIfInBounds_toArray, List.set_cons_zero, List.set_cons_succ]
        refine wpAny_all (rs := [5]) (by kernel_rfl) (by simp) (fun i hi => ?_)
        obtain rfl : i = 5 := by simpa using hi
        refine wpOpU_stepG rfl (by rfl) (fun K hK => ?_)
        go_simp
        refine hK _ _ ?_
        clear hK K
        try simp only [Act.put, List.getElem_toArray, List.getElem_cons_succ, List.getElem_cons_zero, List.setIfInBounds_toArray, List.set_cons_zero, List.set_cons_succ]
        refine wpAny_all (rs := [6]) (by kernel_rfl) (by simp) (fun i hi => ?_)
        obtain rfl : i = 6 := by simpa using hi
        refine wpOpU_stepG rfl (by rfl) (fun K hK => ?_)
        go_simp
        refine (step20_any (t := t) Sr.out.drew Hw.out Hok.out Hps.out (by omega) (by omega) (by omega) (by omega)).mono ?_
        rintro e w3 ⟨rfl, σ', KC', JR', hlg', hkc', hjr', s3⟩
        obtain ⟨oE, cE, hE, _, hq⟩ := s3.refev
        have S3 := Lib.hid s3
        refine hK _ _ ?_
        clear hK K s3
        clear d0 d1 d2 d3 d4 d5 d6 d7 d8 d9 d10 d11 d12 d13 d14 d15 d16
        try simp only [Act.put, List.getElem_toArray, List.getElem_cons_succ, List.getElem_cons_zero, List.setIfInBounds_toArray, List.set_cons_zero, List.set_cons_succ]
        refine wpAny_take (i := 7) (v := ?_) rfl (by kernel_rfl) (by kernel_rfl) (by kernel_rfl) (fun _ _ _ h => h) (Or.inl ⟨by rfl, ?_⟩) ?_
        rotate_left 1
        · (intro w'; (try simp only [List.getElem_toArray, List.getElem_cons_succ, List.getElem_cons_zero]); go_simp; (try with_reducible rfl))
        try simp only [Act.put, List.getElem_toArray, List.getElem_cons_succ, List.getElem_cons_zero, List.setIfInBounds_toArray, List.set_cons_zero, List.set_cons_succ]
        refine wpAny_take (i := 8) (v := ?_) rfl (by kernel_rfl) (by kernel_rfl) (by kernel_rfl) (fun _ _ _ h => h) (Or.inl ⟨by rfl, ?_⟩) ?_
        rotate_left 1
        · (intro w'; (try simp only [List.getElem_toArray, List.getElem_cons_succ, List.getElem_cons_zero]); go_simp; (try with_reducible rfl))
        try simp only [Act.put, List.getElem_toArray, List.getElem_cons_succ, List.getElem_cons_zero, List.setIfInBounds_toArray, List.set_cons_zero, List.set_cons_succ]
        refine wpAny_take (i := 9) (v := ?_) rfl (by kernel_rfl) (by kernel_rfl) (by kernel_rfl) (fun _ _ _ h => h) (Or.inl ⟨by rfl, ?_⟩) ?_
        rotate_left 1
        · (intro w'; (try simp only [List.getElem_toArray, List.getElem_cons_succ, List.getElem_cons_zero]); go_simp; (try with_reducible rfl))
        try simp only [Act.put, List.getElem_toArray, List.getElem_cons_succ, List.getElem_cons_zero, List.setIfInBounds_toArray, List.set_cons_zero, List.set_cons_succ]
        refine wpAny_take (i := 11) (v := ?_) rfl (by kernel_rfl) (by kernel_rfl) (by kernel_rfl) (fun _ _ _ h => h) (Or.inl ⟨by rfl, ?_⟩) ?_
        rotate_left 1
        · (intro w'; (try simp only [List.getElem_toArray, List.getElem_cons_succ, List.getElem_cons_zero]); go_simp; (try with_reducible rfl))
        try simp only [Act.put, List.getElem_toArray, List.getElem_cons_succ, List.getElem_cons_zero, List.setIfInBounds_toArray, List.set_cons_zero, List.set_cons_succ]
        refine wpAny_take (i := 12) (v := ?_) rfl (by kernel_rfl) (by kernel_rfl) (by kernel_rfl) (fun _ _ _ h => h) (Or.inl ⟨by rfl, ?_⟩) ?_
        rotate_left 1
        · (intro w'; (try simp only [List.getElem_toArray, List.getElem_cons_succ, List.getElem_cons_zero]); go_simp; (try with_reducible rfl))
        try simp only [Act.put, List.getElem_toArray, List.getElem_cons_succ, List.getElem_cons_zero, List.setIfInBounds_toArray, List.set_cons_zero, List.set_cons_succ]
        refine wpAny_take (i := 13) (v := ?_) rfl (by kernel_rfl) (by kernel_rfl) (by kernel_rfl) (fun _ _ _ h => h) (Or.inl ⟨by rfl, ?_⟩) ?_
        rotate_left 1
        · (intro w'; (try simp only [List.getElem_toArray, List.getElem_cons_succ, List.getElem_cons_zero]); go_simp; (try with_reducible rfl))
        try simp only [Act.put, List.getElem_toArray, List.getElem_cons_succ, List.getElem_cons_zero, List.setIfInBounds_toArray, List.set_cons_zero, List.set_cons_succ]
        have hS0 : w3.cell? ⟨q, 0, none⟩ = some (ptr x) ∧ w3.cell? ⟨x, 2, none⟩ = some (.slice oE σ'.log.length cE) := ⟨hq, hE⟩
        clear hq hE
        refine wpAny_of_U (S := fun w' => w'.cell? ⟨q, 0, none⟩ = some (ptr x) ∧ w'.cell? ⟨x, 2, none⟩ = some (.slice oE σ'.log.length cE)) (U := [10, 14, 15, 16, 17, 18, 19, 20]) _ _ _ _ ?_
        refine wpAnyU_take (i := 14) (v := ?_) rfl (by kernel_rfl) (by kernel_rfl) (by kernel_rfl) (by kernel_rfl) (fun _ _ _ h => h) (Or.inl ⟨by rfl, ?_⟩) hS0 ?_
        rotate_left 1
        · (intro w' hS; (try dsimp only at hS); (try simp only [List.getElem_toArray, List.getElem_cons_succ, List.getElem_cons_zero]); go_simp; (try with_reducible rfl))
        try simp only [Act.put, List.getElem_toArray, List.getElem_cons_succ, List.getElem_cons_zero, List.setIfInBounds_toArray, List.set_cons_zero, List.set_cons_succ]
        refine wpAnyU_take (i := 15) (v := ?_) rfl (by kernel_rfl) (by kernel_rfl) (by kernel_rfl) (by kernel_rfl) (fun _ _ _ h => h) (Or.inl ⟨by rfl, ?_⟩) hS0 ?_
        rotate_left 1
        · (intro w' hS; (try dsimp only at hS); (try simp only [List.getElem_toArray, List.getElem_cons_succ, List.getElem_cons_zero]); go_simp; (try with_reducible rfl))
        try simp only [Act.put, List.getElem_toArray, List.getElem_cons_succ, List.getElem_cons_zero, List.setIfInBounds_toArray, List.set_cons_zero, List.set_cons_succ]
        refine wpAnyU_take (i := 16) (v := ?_) rfl (by kernel_rfl) (by kernel_rfl) (by kernel_rfl) (by kernel_rfl) (fun _ _ _ h => h) (Or.inl ⟨by rfl, ?_⟩) hS0 ?_
        rotate_left 1
        · (intro w' hS; (try dsimp only at hS); (try simp only [List.getElem_toArray, List.getElem_cons_succ, List.getElem_cons_zero]); go_simp; (try with_reducible rfl))
        try simp only [Act.put, List.getElem_toArray, List.getElem_cons_succ, List.getElem_cons_zero, List.setIfInBounds_toArray, List.set_cons_zero, List.set_cons_succ]
        refine wpAnyU_take (i := 17) (v := ?_) rfl (by kernel_rfl) (by kernel_rfl) (by kernel_rfl) (by kernel_rfl) (fun _ _ _ h => h) (Or.inl ⟨by rfl, ?_⟩) hS0 ?_
        rotate_left 1
        · (intro w' hS; (try dsimp only at hS); (try simp only [List.getElem_toArray, List.getElem_cons_succ, List.getElem_cons_zero]); go_simp; (try with_reducible rfl))
        try simp only [Act.put, List.getElem_toArray, List.getElem_cons_succ, List.getElem_cons_zero, List.setIfInBounds_toArray, List.set_cons_zero, List.set_cons_succ]
        refine wpAnyU_take (i := 18) (v := ?_) rfl (by kernel_rfl) (by kernel_rfl) (by kernel_rfl) (by kernel_rfl) (fun _ _ _ h => h) (Or.inl ⟨by rfl, ?_⟩) hS0 ?_
        rotate_left 1
        · (intro w' hS; (try dsimp only at hS); (try simp only [List.getElem_toArray, List.getElem_cons_succ, List.getElem_cons_zero]); go_simp; (try with_reducible rfl))
        try simp only [Act.put, List.getElem_toArray, List.getElem_cons_succ, List.getElem_cons_zero, List.setIfInBounds_toArray, List.set_cons_zero, List.set_cons_succ]
        refine wpAnyU_all (rs := [10]) (by kernel_rfl) (by simp) (fun i hi => ?_)
        obtain rfl : i = 10 := by simpa using hi
        refine wpOpU_stepG rfl (by rfl) (fun K hK => ?_)
        go_simp
        refine (post_len0 S3.out (by omega)).mono ?_
        rintro e w4 ⟨rfl, rfl⟩
        refine hK _ _ ⟨fun _ => hS0, ?_⟩
        clear hK K
        try simp only [Act.put, List.getElem_toArray, List.getElem_cons_succ, List.getElem_cons_zero, List.setIfInBounds_toArray, List.set_cons_zero, List.set_cons_succ]
        refine wpAnyU_take (i := 19) (v := ?_) rfl (by kernel_rfl) (by kernel_rfl) (by kernel_rfl) (by kernel_rfl) (fun _ _ _ h => h) (Or.inl ⟨by rfl, ?_⟩) hS0 ?_
        rotate_left 1
        · (intro w' hS; (try dsimp only at hS); (try simp only [List.getElem_toArray, List.getElem_cons_succ, List.getElem_cons_zero]); go_simp; (try with_reducible rfl))
        try simp only [Act.put, List.getElem_toArray, List.getElem_cons_succ, List.getElem_cons_zero, List.setIfInBounds_toArray, List.set_cons_zero, List.set_cons_succ]
        refine wpAnyU_take (i := 20) (v := ?_) rfl (by kernel_rfl) (by kernel_rfl) (by kernel_rfl) (by kernel_rfl) (fun _ _ _ h => h) (Or.inl ⟨by rfl, ?_⟩) hS0 ?_
        rotate_left 1
        · (intro w' hS; (try dsimp only at hS); (try simp only [List.getElem_toArray, List.getElem_cons_succ, List.getElem_cons_zero]); go_simp; (try with_reducible rfl))
        try simp only [Act.put, List.getElem_toArray, List.getElem_cons_succ, List.getElem_cons_zero, List.setIfInBounds_toArray, List.set_cons_zero, List.set_cons_succ]
        refine wpAnyU_done (by kernel_rfl) ?_ _
        clear hS0
        go_wp2
        go_roundw
        case rel => exact ⟨k + 1, σ', KC', JR', by omega, by omega, by go_num, by omega, by omega, by omega, S3.out.rpost_up (by omega)⟩
        case measure => simp [intOf]; omega
      · have e80 : k = 80 := by omega
        obtain ⟨oE, cE, hE, evE, hq⟩ := Sr.out.refev
        have EvE := Lib.hid evE
        clear evE
        have CQ := Lib.hid (Chg.refl [] wr).drew; have SQ := Lib.hid Sr.out.drew
        go_wp2_with fail
        go_region_held3 (fun w' => w'.cell? ⟨q, 0, none⟩ = some (ptr x) ∧ w'.cell? ⟨x, 2, none⟩ = some (.slice oE σ.log.length cE)) (go_keep)
          (first
            | (go_at_call 28
               refine (post_events0 SQ.out (by omega)).mono ?_
               rintro e w5 ⟨v5, rfl, o5, c5, _⟩
               have f5 := c5.cell (CQ.out.cell hE (by simp)) (by simp)
               have g5 := c5.cell (CQ.out.cell hq (by simp)) (by simp)
               have O5 := Lib.hid (EvSlice.of_owns o5); have C5 := Lib.hid (CQ.out.quiet c5)
               clear o5 c5)
            | (go_at_call 27
               refine (plainEv_any O5.out (EvE.out.chg C5.out) (by omega)).mono ?_
               rintro e w6 ⟨he, hc⟩
               rw [decide_eq_true rfl] at he
               subst he
               have f6 := hc.cell f5 (by simp)
               have g6 := hc.cell g5 (by simp)
               have C6 := Lib.hid (C5.out.quiet hc)
               clear hc))
        go_wp2
        go_ret
        exact ⟨rfl, (Sr.out.quiet C6.out).below⟩
    · have ek : k = n := by omega
      obtain ⟨oE, cE, hE, evE, hq⟩ := Sr.out.refev
      have EvE := Lib.hid evE
      clear evE
      have CQ := Lib.hid (Chg.refl [] wr).drew; have SQ := Lib.hid Sr.out.drew
      go_wp2_with fail
      go_region_held3 (fun w' => w'.cell? ⟨q, 0, none⟩ = some (ptr x) ∧ w'.cell? ⟨x, 2, none⟩ = some (.slice oE σ.log.length cE)) (go_keep)
        (first
          | (go_at_call 28
             refine (post_events0 SQ.out (by omega)).mono ?_
             rintro e w5 ⟨v5, rfl, o5, c5, _⟩
             have f5 := c5.cell (CQ.out.cell hE (by simp)) (by simp)
             have g5 := c5.cell (CQ.out.cell hq (by simp)) (by simp)
             have O5 := Lib.hid (EvSlice.of_owns o5); have C5 := Lib.hid (CQ.out.quiet c5)
             clear o5 c5)
          | (go_at_call 27
             refine (plainEv_any O5.out (EvE.out.chg C5.out) (by omega)).mono ?_
             rintro e w6 ⟨he, hc⟩
             rw [decide_eq_true rfl] at he
             subst he
             have f6 := hc.cell f5 (by simp)
             have g6 := hc.cell g5 (by simp)
             have C6 := Lib.hid (C5.out.quiet hc)
             clear hc))
      go_wp2
      go_ret
      exact ⟨rfl, (Sr.out.quiet C6.out).below⟩
end Go.Proofs.Ytjipjhmcpjffcac
