/- RingPlays: whatever is done to both, they tell the same. -/
import Derived.Test.YtjipjhmcpjffcadRingU
set_option linter.unusedSimpArgs false
set_option linter.unusedVariables false
set_option maxRecDepth 20000
namespace Go.Proofs.Ytjipjhmcpjffcad
open Go Go.RowKit Go.Maps

section
variable {S : List Nat} {w0 w : World} {X : HA} {Bs : List HA} {q x g' l : Nat} {obj : Int}
theorem Scope.refev {n : Nat} {σ : MS} {cs : Cs l} (h : Scope S w0 w (X :: rringA q x obj g' l n σ cs :: Bs)) : ∃ oE cE, w.cell? ⟨x, 2, none⟩ = some (.slice oE σ.log.length cE) ∧ EvSlice w (.slice oE σ.log.length cE) σ.log ∧ w.cell? ⟨q, 0, none⟩ = some (ptr x) := by
  have h1 := h.swap2.open1
  obtain ⟨f, ⟨kv, _, _, hR⟩, _⟩ := h1.get 0 rfl
  obtain ⟨oE, cE, h2, h3⟩ := RefAt.ev hR
  exact ⟨oE, cE, h2, h3, (h1.row 1 rfl).cell rfl⟩
end

set_option maxHeartbeats 8000000 in
set_option maxRecDepth 20000 in
theorem ringPlays_row {w : World} (obj most : Int) (v : Value) (L : List Us) (ho : I64 obj) (_ : I64 most) (_ : True) (h : UsesAt w v L) :
    Calls Try.prog 8 #[.int .i64 obj, .int .i64 most, v] w fun e w' => e = .returned (.bool true) ∧ Below w.heap.size w w' := by
  obtain ⟨oa, cp, rfl, hlc, hcm, hel⟩ := h.form
  obtain ⟨n, hn⟩ : ∃ n, n = L.length := ⟨_, rfl⟩
  rw [← hn] at hlc ⊢
  have Hel := Lib.hid hel; have Hn := Lib.hid hn; have S0 := Lib.hid (Scope.empty w)
  clear hel hn h 
  go_enter Try.func8, Try.ntmps8
  go_wp2_with fail
  refine (made17b_scope S0.out obj most).mono ?_
  rintro e w1 ⟨l, m, p, g0, q, x, g', cs, l0, l8, rfl, s1⟩
  have S1 := Lib.hid s1
  clear s1
  have Ho := Lib.hid ho; have L0 := Lib.hid l0; have L8 := Lib.hid l8
  clear ho l0 l8
  go_wp2_with fail
  have hq0 : w1.cell? ⟨q, 2, none⟩ = some (.int .i64 l) := (S1.out.swap2.open1.row 1 rfl).cell rfl
  have S1d := Lib.hid S1.out.drew
  go_region_held3 (fun w' => w'.cell? ⟨q, 2, none⟩ = some (.int .i64 l)) (go_keep)
    (first
      | (go_at_call 11
         refine (awake17_scope S1d.out).mono ?_
         rintro e w2 ⟨rfl, s2⟩
         have hq2 : w2.cell? ⟨q, 2, none⟩ = some (.int .i64 l) := (s2.swap2.open1.row 1 rfl).cell rfl
         have S2a := Lib.hid s2
         clear s2)
      | (go_at_call 13
         refine (rmostl_does.full0 (σ := MS.zero) S2a.out).mono ?_
         rintro e w3 ⟨rfl, s3⟩
         have hq3 : w3.cell? ⟨q, 2, none⟩ = some (.int .i64 l) := (s3.swap2.open1.row 1 rfl).cell rfl
         have S2 := Lib.hid s3
         clear s3))
  clear S1 S1d S2a hq0
  go_wp2_with fail
  go_loopw [10] (fun i wr => ∃ (k : Nat) (σ : MS) (cs : Cs l), k ≤ n ∧ k ≤ 80 ∧ i = .int .i64 k ∧ σ.log.length ≤ 2 * k ∧ Scope [] w wr [ringA p m obj g0 l σ cs, rringA q x obj g' l (2 * k) σ cs]) (fun i _ => n - (intOf i).toNat)
  case atStart => exact ⟨0, MS.zero, cs, by omega, by omega, rfl, by simp [MS.zero], S2.out⟩
  case round =>
    obtain ⟨k, σ, cs, hk, hk2, rfl, hlg, hs⟩ := hrel
    have Sr := Lib.hid hs
    clear hs S2
    by_cases hlt : k < n
    · by_cases h80 : k < 80
      · obtain ⟨u, hu⟩ : ∃ u, L[k]? = some u := ⟨_, List.getElem?_eq_getElem (by rw [← Hn.out]; exact hlt)⟩
        obtain ⟨hw, g, off, rfl, hc⟩ := Hel.out k u hu
        have Hw := Lib.hid hw
        have hd : ∀ w', Chg [] w w' → (w'.cell? ⟨g, off + k * 9, none⟩ = some (.int .i64 u.k) ∧ w'.cell? ⟨g, off + k * 9 + 1, none⟩ = some (.int .i64 u.who) ∧ w'.cell? ⟨g, off + k * 9 + 2, none⟩ = some (.int .i64 u.obj) ∧ w'.cell? ⟨g, off + k * 9 + 3, none⟩ = some (.int .i64 u.i) ∧ w'.cell? ⟨g, off + k * 9 + 4, none⟩ = some (.int .u64 u.n) ∧ w'.cell? ⟨g, off + k * 9 + 5, none⟩ = some (.int .u64 u.m) ∧ w'.cell? ⟨g, off + k * 9 + 6, none⟩ = some (.int .i64 u.flow) ∧ w'.cell? ⟨g, off + k * 9 + 7, none⟩ = some (.int .i64 u.len) ∧ w'.cell? ⟨g, off + k * 9 + 8, none⟩ = some (.int .i64 u.mark)) := hc
        clear hc hu hw
        have i1 : (k : Int) < (n : Int) := by omega
        have i0 : (0 : Int) ≤ (k : Int) := by omega
        obtain ⟨_, _, _, _, hq⟩ := Sr.out.refev
        have cr : Chg [] w wr.drew := Sr.out.drew.1
        obtain ⟨d0, d1, d2, d3, d4, d5, d6, d7, d8⟩ := hd wr Sr.out.1
        clear hd cr hq
        go_wp2_with fail
        refine wp_region_any (by kernel_rfl) ?_
        change wpAny _ _ _ _ _ _ _ wr.drew
        refine wpAny_take (i := 0) (v := ?_) rfl (by kernel_rfl) (by kernel_rfl) (by kernel_rfl) (fun _ _ _ h => h) (Or.inl ⟨by rfl, ?_⟩) ?_
        rotate_left 1
        · (intro w'; (try simp only [List.getElem_toArray, List.getElem_cons_succ, List.getElem_cons_zero]); go_simp; (try with_reducible rfl))
        try simp only [Act.put, List.getElem_toArray, List.getElem_cons_succ, List.getElem_cons_zero, List.setIfInBounds_toArray, List.set_cons_zero, List.set_cons_succ]
        refine wpAny_take (i := 1) (v := ?_) rfl (by kernel_rfl) (by kernel_rfl) (by kernel_rfl) (fun _ _ _ h => h) (Or.inl ⟨by rfl, ?_⟩) ?_
        rotate_left 1
        · (intro w'; (try simp only [List.getElem_toArray, List.getElem_cons_succ, List.getElem_cons_zero]); go_simp; (try with_reducible rfl))
        try simp only [Act.put, List.getElem_toArray, List.getElem_cons_succ, List.getElem_cons_zero, List.setIfInBounds_toArray, List.set_cons_zero, List.set_cons_succ]
        refine wpAny_take (i := 2) (v := ?_) rfl (by kernel_rfl) (by kernel_rfl) (by kernel_rfl) (fun _ _ _ h => h) (Or.inl ⟨by rfl, ?_⟩) ?_
        rotate_left 1
        · (intro w'; (try simp only [List.getElem_toArray, List.getElem_cons_succ, List.getElem_cons_zero]); go_simp; (try with_reducible rfl))
        try simp only [Act.put, List.getElem_toArray, List.getElem_cons_succ, List.getElem_cons_zero, List.setIfInBounds_toArray, List.set_cons_zero, List.set_cons_succ]
        refine wpAny_take (i := 3) (v := ?_) rfl (by kernel_rfl) (by kernel_rfl) (by kernel_rfl) (fun _ _ _ h => h) (Or.inl ⟨by rfl, ?_⟩) ?_
        rotate_left 1
        · (intro w'; (try simp only [List.getElem_toArray, List.getElem_cons_succ, List.getElem_cons_zero]); go_simp; (try with_reducible rfl))
        try simp only [Act.put, List.getElem_toArray, List.getElem_cons_succ, List.getElem_cons_zero, List.setIfInBounds_toArray, List.set_cons_zero, List.set_cons_succ]
        refine wpAny_take (i := 4) (v := ?_) rfl (by kernel_rfl) (by kernel_rfl) (by kernel_rfl) (fun _ _ _ h => h) (Or.inl ⟨by rfl, ?_⟩) ?_
        rotate_left 1
        · (intro w'; (try simp only [List.getElem_toArray, List.getElem_cons_succ, List.getElem_cons_zero]); go_simp; (try with_reducible rfl))
        try simp only [Act.put, List.getElem_toArray, List.getElem_cons_succ, List.getElem_cons_zero, List.setIfInBounds_toArray, List.set_cons_zero, List.set_cons_succ]
        refine wpAny_all (rs := [5]) (by kernel_rfl) (by simp) (fun i hi => ?_)
        obtain rfl : i = 5 := by simpa using hi
        refine wpOpU_stepG rfl (by rfl) (fun K hK => ?_)
        go_simp
        refine hK _ _ ?_
        clear hK K
        try simp only [Act.put, List.getElem_toArray, List.getElem_cons_succ, List.getElem_cons_zero, List.setIfInBounds_toArray, List.set_cons_zero, List.set_cons_succ]
        refine wpAny_all (rs := [6]) (by kernel_rfl) (by simp) (fun i hi => ?_)
        obtain rfl : i = 6 := by simpa using hi
        refine wpOpU_stepG rfl (by rfl) (fun K hK => ?_)
        go_simp
        refine (step17_same Ho.out L0.out L8.out Sr.out.drew Hw.out (by omega) (by omega)).mono ?_
        rintro e w3 ⟨rfl, σ', cs', hlg', s3⟩
        obtain ⟨oE, cE, hE, _, hq⟩ := s3.refev
        have S3 := Lib.hid s3
        refine hK _ _ ?_
        clear hK K s3 d0 d1 d2 d3 d4 d5 d6 d7 d8
        try simp only [Act.put, List.getElem_toArray, List.getElem_cons_succ, List.getElem_cons_zero, List.setIfInBounds_toArray, List.set_cons_zero, List.set_cons_succ]
        refine wpAny_take (i := 7) (v := ?_) rfl (by kernel_rfl) (by kernel_rfl) (by kernel_rfl) (fun _ _ _ h => h) (Or.inl ⟨by rfl, ?_⟩) ?_
        rotate_left 1
        · (intro w'; (try simp only [List.getElem_toArray, List.getElem_cons_succ, List.getElem_cons_zero]); go_simp; (try with_reducible rfl))
        try simp only [Act.put, List.getElem_toArray, List.getElem_cons_succ, List.getElem_cons_zero, List.setIfInBounds_toArray, List.set_cons_zero, List.set_cons_succ]
        refine wpAny_take (i := 8) (v := ?_) rfl (by kernel_rfl) (by kernel_rfl) (by kernel_rfl) (fun _ _ _ h => h) (Or.inl ⟨by rfl, ?_⟩) ?_
        rotate_left 1
        · (intro w'; (try simp only [List.getElem_toArray, List.getElem_cons_succ, List.getElem_cons_zero]); go_simp; (try with_reducible rfl))
        try simp only [Act.put, List.getElem_toArray, List.getElem_cons_succ, List.getElem_cons_zero, List.setIfInBounds_toArray, List.set_cons_zero, List.set_cons_succ]
        refine wpAny_take (i := 9) (v := ?_) rfl (by kernel_rfl) (by kernel_rfl) (by kernel_rfl) (fun _ _ _ h => h) (Or.inl ⟨by rfl, ?_⟩) ?_
        rotate_left 1
        · (intro w'; (try simp only [List.getElem_toArray, List.getElem_cons_succ, List.getElem_cons_zero]); go_simp; (try with_reducible rfl))
        try simp only [Act.put, List.getElem_toArray, List.getElem_cons_succ, List.getElem_cons_zero, List.setIfInBounds_toArray, List.set_cons_zero, List.set_cons_succ]
        refine wpAny_take (i := 11) (v := ?_) rfl (by kernel_rfl) (by kernel_rfl) (by kernel_rfl) (fun _ _ _ h => h) (Or.inl ⟨by rfl, ?_⟩) ?_
        rotate_left 1
        · (intro w'; (try simp only [List.getElem_toArray, List.getElem_cons_succ, List.getElem_cons_zero]); go_simp; (try with_reducible rfl))
        try simp only [Act.put, List.getElem_toArray, List.getElem_cons_succ, List.getElem_cons_zero, List.setIfInBounds_toArray, List.set_cons_zero, List.set_cons_succ]
        refine wpAny_take (i := 12) (v := ?_) rfl (by kernel_rfl) (by kernel_rfl) (by kernel_rfl) (fun _ _ _ h => h) (Or.inl ⟨by rfl, ?_⟩) ?_
        rotate_left 1
        · (intro w'; (try simp only [List.getElem_toArray, List.getElem_cons_succ, List.getElem_cons_zero]); go_simp; (try with_reducible rfl))
        try simp only [Act.put, List.getElem_toArray, List.getElem_cons_succ, List.getElem_cons_zero, List.setIfInBounds_toArray, List.set_cons_zero, List.set_cons_succ]
        refine wpAny_take (i := 13) (v := ?_) rfl (by kernel_rfl) (by kernel_rfl) (by kernel_rfl) (fun _ _ _ h => h) (Or.inl ⟨by rfl, ?_⟩) ?_
        rotate_left 1
        · (intro w'; (try simp only [List.getElem_toArray, List.getElem_cons_succ, List.getElem_cons_zero]); go_simp; (try with_reducible rfl))
        try simp only [Act.put, List.getElem_toArray, List.getElem_cons_succ, List.getElem_cons_zero, List.setIfInBounds_toArray, List.set_cons_zero, List.set_cons_succ]
        have hS0 : w3.cell? ⟨q, 0, none⟩ = some (ptr x) ∧ w3.cell? ⟨x, 2, none⟩ = some (.slice oE σ'.log.length cE) := ⟨hq, hE⟩
        clear hq hE
        refine wpAny_of_U (S := fun w' => w'.cell? ⟨q, 0, none⟩ = some (ptr x) ∧ w'.cell? ⟨x, 2, none⟩ = some (.slice oE σ'.log.length cE)) (U := [10, 14, 15, 16, 17, 18, 19, 20]) _ _ _ _ ?_
        refine wpAnyU_take (i := 14) (v := ?_) rfl (by kernel_rfl) (by kernel_rfl) (by kernel_rfl) (by kernel_rfl) (fun _ _ _ h => h) (Or.inl ⟨by rfl, ?_⟩) hS0 ?_
        rotate_left 1
        · (intro w' hS; (try dsimp only at hS); (try simp only [List.getElem_toArray, List.getElem_cons_succ, List.getElem_cons_zero]); go_simp; (try with_reducible rfl))
        try simp only [Act.put, List.getElem_toArray, List.getElem_cons_succ, List.getElem_cons_zero, List.setIfInBounds_toArray, List.set_cons_zero, List.set_cons_succ]
        refine wpAnyU_take (i := 15) (v := ?_) rfl (by kernel_rfl) (by kernel_rfl) (by kernel_rfl) (by kernel_rfl) (fun _ _ _ h => h) (Or.inl ⟨by rfl, ?_⟩) hS0 ?_
        rotate_left 1
        · (intro w' hS; (try dsimp only at hS); (try simp only [List.getElem_toArray, List.getElem_cons_succ, List.getElem_cons_zero]); go_simp; (try with_reducible rfl))
        try simp only [Act.put, List.getElem_toArray, List.getElem_cons_succ, List.getElem_cons_zero, List.setIfInBounds_toArray, List.set_cons_zero, List.set_cons_succ]
        refine wpAnyU_take (i := 16) (v := ?_) rfl (by kernel_rfl) (by kernel_rfl) (by kernel_rfl) (by kernel_rfl) (fun _ _ _ h => h) (Or.inl ⟨by rfl, ?_⟩) hS0 ?_
        rotate_left 1
        · (intro w' hS; (try dsimp only at hS); (try simp only [List.getElem_toArray, List.getElem_cons_succ, List.getElem_cons_zero]); go_simp; (try with_reducible rfl))
        try simp only [Act.put, List.getElem_toArray, List.getElem_cons_succ, List.getElem_cons_zero, List.setIfInBounds_toArray, List.set_cons_zero, List.set_cons_succ]
        refine wpAnyU_take (i := 17) (v := ?_) rfl (by kernel_rfl) (by kernel_rfl) (by kernel_rfl) (by kernel_rfl) (fun _ _ _ h => h) (Or.inl ⟨by rfl, ?_⟩) hS0 ?_
        rotate_left 1
        · (intro w' hS; (try dsimp only at hS); (try simp only [List.getElem_toArray, List.getElem_cons_succ, List.getElem_cons_zero]); go_simp; (try with_reducible rfl))
        try simp only [Act.put, List.getElem_toArray, List.getElem_cons_succ, List.getElem_cons_zero, List.setIfInBounds_toArray, List.set_cons_zero, List.set_cons_succ]
        refine wpAnyU_take (i := 18) (v := ?_) rfl (by kernel_rfl) (by kernel_rfl) (by kernel_rfl) (by kernel_rfl) (fun _ _ _ h => h) (Or.inl ⟨by rfl, ?_⟩) hS0 ?_
        rotate_left 1
        · (intro w' hS; (try dsimp only at hS); (try simp only [List.getElem_toArray, List.getElem_cons_succ, List.getElem_cons_zero]); go_simp; (try with_reducible rfl))
        try simp only [Act.put, List.getElem_toArray, List.getElem_cons_succ, List.getElem_cons_zero, List.setIfInBounds_toArray, List.set_cons_zero, List.set_cons_succ]
        refine wpAnyU_all (rs := [10]) (by kernel_rfl) (by simp) (fun i hi => ?_)
        obtain rfl : i = 10 := by simpa using hi
        refine wpOpU_stepG rfl (by rfl) (fun K hK => ?_)
        go_simp
        refine (len0 S3.out.open1 (by omega)).mono ?_
        rintro e w4 ⟨rfl, rfl⟩
        refine hK _ _ ⟨fun _ => hS0, ?_⟩
        clear hK K
        try simp only [Act.put, List.getElem_toArray, List.getElem_cons_succ, List.getElem_cons_zero, List.setIfInBounds_toArray, List.set_cons_zero, List.set_cons_succ]
        refine wpAnyU_take (i := 19) (v := ?_) rfl (by kernel_rfl) (by kernel_rfl) (by kernel_rfl) (by kernel_rfl) (fun _ _ _ h => h) (Or.inl ⟨by rfl, ?_⟩) hS0 ?_
        rotate_left 1
        · (intro w' hS; (try dsimp only at hS); (try simp only [List.getElem_toArray, List.getElem_cons_succ, List.getElem_cons_zero]); go_simp; (try with_reducible rfl))
        try simp only [Act.put, List.getElem_toArray, List.getElem_cons_succ, List.getElem_cons_zero, List.setIfInBounds_toArray, List.set_cons_zero, List.set_cons_succ]
        refine wpAnyU_take (i := 20) (v := ?_) rfl (by kernel_rfl) (by kernel_rfl) (by kernel_rfl) (by kernel_rfl) (fun _ _ _ h => h) (Or.inl ⟨by rfl, ?_⟩) hS0 ?_
        rotate_left 1
        · (intro w' hS; (try dsimp only at hS); (try simp only [List.getElem_toArray, List.getElem_cons_succ, List.getElem_cons_zero]); go_simp; (try with_reducible rfl))
        try simp only [Act.put, List.getElem_toArray, List.getElem_cons_succ, List.getElem_cons_zero, List.setIfInBounds_toArray, List.set_cons_zero, List.set_cons_succ]
        refine wpAnyU_done (by kernel_rfl) ?_ _
        clear hS0
        go_wp2
        go_roundw
        case rel => exact ⟨k + 1, σ', cs', by omega, by omega, by go_num, by omega, S3.out.rring_up (by omega)⟩
        case measure => simp [intOf]; omega
      · have e80 : k = 80 := by omega
        obtain ⟨oE, cE, hE, evE, hq⟩ := Sr.out.refev
        have EvE := Lib.hid evE
        clear evE
        have CQ := Lib.hid (Chg.refl [] wr).drew; have SQ := Lib.hid Sr.out.drew
        go_wp2_with fail
        go_region_held3 (fun w' => w'.cell? ⟨q, 0, none⟩ = some (ptr x) ∧ w'.cell? ⟨x, 2, none⟩ = some (.slice oE σ.log.length cE)) (go_keep)
          (first
            | (go_at_call 34
               refine (events0 SQ.out.open1 (by omega)).mono ?_
               rintro e w5 ⟨v5, rfl, o5, c5, _⟩
               have f5 := c5.cell (CQ.out.cell hE (by simp)) (by simp)
               have g5 := c5.cell (CQ.out.cell hq (by simp)) (by simp)
               have O5 := Lib.hid (EvSlice.of_owns o5); have C5 := Lib.hid (CQ.out.quiet c5)
               clear o5 c5)
            | (go_at_call 33
               refine (plainEv_any O5.out (EvE.out.chg C5.out) (by omega)).mono ?_
               rintro e w6 ⟨he, hc⟩
               rw [decide_eq_true rfl] at he
               subst he
               have f6 := hc.cell f5 (by simp)
               have g6 := hc.cell g5 (by simp)
               have C6 := Lib.hid (C5.out.quiet hc)
               clear hc))
        go_wp2
        go_ret
        exact ⟨rfl, (Sr.out.quiet C6.out).below⟩
    · have ek : k = n := by omega
      obtain ⟨oE, cE, hE, evE, hq⟩ := Sr.out.refev
      have EvE := Lib.hid evE
      clear evE
      have CQ := Lib.hid (Chg.refl [] wr).drew; have SQ := Lib.hid Sr.out.drew
      go_wp2_with fail
      go_region_held3 (fun w' => w'.cell? ⟨q, 0, none⟩ = some (ptr x) ∧ w'.cell? ⟨x, 2, none⟩ = some (.slice oE σ.log.length cE)) (go_keep)
        (first
          | (go_at_call 34
             refine (events0 SQ.out.open1 (by omega)).mono ?_
             rintro e w5 ⟨v5, rfl, o5, c5, _⟩
             have f5 := c5.cell (CQ.out.cell hE (by simp)) (by simp)
             have g5 := c5.cell (CQ.out.cell hq (by simp)) (by simp)
             have O5 := Lib.hid (EvSlice.of_owns o5); have C5 := Lib.hid (CQ.out.quiet c5)
             clear o5 c5)
          | (go_at_call 33
             refine (plainEv_any O5.out (EvE.out.chg C5.out) (by omega)).mono ?_
             rintro e w6 ⟨he, hc⟩
             rw [decide_eq_true rfl] at he
             subst he
             have f6 := hc.cell f5 (by simp)
             have g6 := hc.cell g5 (by simp)
             have C6 := Lib.hid (C5.out.quiet hc)
             clear hc))
      go_wp2
      go_ret
      exact ⟨rfl, (Sr.out.quiet C6.out).below⟩
end Go.Proofs.Ytjipjhmcpjffcad
