/- RingApart: two rings over one memory, of two objects, have nothing in common. -/
import Derived.Test.YtjipjhmcpjffcadRingV
set_option linter.unusedSimpArgs false
set_option linter.unusedVariables false
set_option maxRecDepth 20000
namespace Go.Proofs.Ytjipjhmcpjffcad
open Go Go.RowKit Go.Maps
section
variable {S : List Nat} {w0 w : World}
theorem arrange {M A B C D E F G H I J : HA} (h : Scope S w0 w [M, A, B, C, D, E, F, G, H, I, J]) : Scope S w0 w [stars [M, A, B], stars [E, F, G], stars [C, D], stars [H, I, J]] := by
  have h1 : Scope S w0 w (stars [M, A, B] :: [C, D, E, F, G, H, I, J]) := Scope.shut1 (As := [M, A, B]) h
  have h2 : Scope S w0 w ([C, D] ++ (stars [M, A, B] :: [E, F, G, H, I, J])) := Scope.swap (As := [stars [M, A, B]]) (Bs := [C, D]) (Cs := [E, F, G, H, I, J]) h1
  have h3 : Scope S w0 w ([E, F, G] ++ ([stars [C, D], stars [M, A, B]] ++ [H, I, J])) := Scope.swap (As := [stars [C, D], stars [M, A, B]]) (Bs := [E, F, G]) (Cs := [H, I, J]) h2.shut1
  have h4 : Scope S w0 w ([H, I, J] ++ ([stars [E, F, G], stars [C, D], stars [M, A, B]] ++ [])) := Scope.swap (As := [stars [E, F, G], stars [C, D], stars [M, A, B]]) (Bs := [H, I, J]) (Cs := []) h3.shut1
  have h5 : Scope S w0 w (stars [H, I, J] :: [stars [E, F, G], stars [C, D], stars [M, A, B]]) := h4.shut1
  have h6 : Scope S w0 w (stars [M, A, B] :: stars [H, I, J] :: [stars [E, F, G], stars [C, D]]) := Scope.swap (As := [stars [H, I, J], stars [E, F, G], stars [C, D]]) (Bs := [stars [M, A, B]]) (Cs := []) h5
  exact Scope.swap (As := [stars [H, I, J]]) (Bs := [stars [M, A, B], stars [E, F, G], stars [C, D]]) (Cs := []) h6.swap2
theorem Does.frame {P : Program} {As As' Bs : List HA} {f : FuncId} {args : Array Value} {r : Value} (d : Does P As f args r As') : Does P (As ++ Bs) f args r (As' ++ Bs) :=
  Does.of_scope fun S w0 w h => by
    refine (d.call (Bs := Bs) h).mono ?_
    rintro e w' ⟨he, hs⟩
    exact ⟨he, [], by simpa using hs⟩
theorem ringpeek {p m g l : Nat} {obj : Int} {σ : MS} {c : Cs l} (j : Lc) (hj : j.wf) : Does Try.prog [ringA p m obj g l σ c] 30 #[ptr m, j.val] (.int .u64 (σ.num j)) [ringA p m obj g l σ c] :=
  Does.star (As := [memA m σ, rb p m obj g l, gb g c.1]) (As' := [memA m σ, rb p m obj g l, gb g c.1]) (Does.frame (As := [memA m σ]) (As' := [memA m σ]) (Bs := [rb p m obj g l, gb g c.1]) (peek_does j hj))
theorem rringpeek {q x g l n : Nat} {obj : Int} {τ : MS} {c : Cs l} (j : Lc) (hn : n ≤ 1000000) : Does Try.prog [rringA q x obj g l n τ c] 32 #[ptr x, j.val] (.int .u64 (τ.num j)) [rringA q x obj g l (n + 1) τ c] :=
  Does.star (As := [refA x n τ, rrb q x obj g l, gb g c.1]) (As' := [refA x (n + 1) τ, rrb q x obj g l, gb g c.1]) (Does.frame (As := [refA x n τ]) (As' := [refA x (n + 1) τ]) (Bs := [rrb q x obj g l, gb g c.1]) (rpeek_does j hn))
theorem rringpeek3 {p1 p2 m g1 g2 l q1 x1 h1 q2 x2 h2 n1 n2 : Nat} {a b : Int} {σ τ ρ : MS} {c1 c2 : Cs l} (j : Lc) (hn : n2 ≤ 1000000) (h : Scope S w0 w [ringA p1 m a g1 l σ c1, rringA q1 x1 a h1 l n1 τ c1, stars [rb p2 m b g2 l, gb g2 c2.1], rringA q2 x2 b h2 l n2 ρ c2]) :
    Calls Try.prog 32 #[ptr x2, j.val] w fun e w' => e = .returned (.int .u64 (ρ.num j)) ∧ Scope S w0 w' [ringA p1 m a g1 l σ c1, rringA q1 x1 a h1 l n1 τ c1, stars [rb p2 m b g2 l, gb g2 c2.1], rringA q2 x2 b h2 l (n2 + 1) ρ c2] := by
  refine ((rringpeek j hn).at1 (other h)).mono ?_
  rintro e w' ⟨he, hs⟩
  exact ⟨he, other hs⟩
theorem rring_ev {q x g l n : Nat} {obj : Int} {τ : MS} {c : Cs l} {X : HA} {Bs : List HA} (h : Scope S w0 w (X :: rringA q x obj g l n τ c :: Bs)) : ∃ oE cE, w.cell? ⟨x, 2, none⟩ = some (.slice oE τ.log.length cE) ∧ w.cell? ⟨q, 0, none⟩ = some (ptr x) := by
  have h1 := h.swap2.open1
  obtain ⟨f, ⟨kv, _, _, hR⟩, _⟩ := h1.get 0 rfl
  obtain ⟨oE, cE, h2, h3⟩ := RefAt.ev hR
  exact ⟨oE, cE, h2, (h1.row 1 rfl).cell rfl⟩
theorem up2 {p1 p2 m g1 g2 l q1 x1 h1 q2 x2 h2 n1 n2 k1 k2 : Nat} {a b : Int} {σ τ ρ : MS} {c1 c2 : Cs l} (h : Scope S w0 w [ringA p1 m a g1 l σ c1, rringA q1 x1 a h1 l n1 τ c1, stars [rb p2 m b g2 l, gb g2 c2.1], rringA q2 x2 b h2 l n2 ρ c2]) (e1 : n1 ≤ k1) (e2 : n2 ≤ k2) :
    Scope S w0 w [ringA p1 m a g1 l σ c1, rringA q1 x1 a h1 l k1 τ c1, stars [rb p2 m b g2 l, gb g2 c2.1], rringA q2 x2 b h2 l k2 ρ c2] :=
  other (Scope.rring_up (other (Scope.rring_up h e1)) e2)
end

set_option maxHeartbeats 8000000 in
set_option maxRecDepth 20000 in
theorem ringApart_row {w : World} (a b most : Int) (v1 : Value) (L : List Us) (v2 : Value) (M : List Us) (ha : I64 a) (hb : I64 b) (_ : I64 most) (_ : True) (hL : UsesAt w v1 L) (_ : True) (hM : UsesAt w v2 M) :
    Calls Try.prog 7 #[.int .i64 a, .int .i64 b, .int .i64 most, v1, v2] w fun e w' => e = .returned (.bool true) ∧ Below w.heap.size w w' := by
  obtain ⟨oa, cp1, rfl, hlc1, hcm1, hel1⟩ := hL.form
  obtain ⟨ob, cp2, rfl, hlc2, hcm2, hel2⟩ := hM.form
  obtain ⟨n1, hn1⟩ : ∃ n, n = L.length := ⟨_, rfl⟩
  obtain ⟨n2, hn2⟩ : ∃ n, n = M.length := ⟨_, rfl⟩
  rw [← hn1] at hlc1 ⊢
  rw [← hn2] at hlc2 ⊢
  have El1 := Lib.hid hel1; have El2 := Lib.hid hel2; have Hn1 := Lib.hid hn1; have Hn2 := Lib.hid hn2; have S0 := Lib.hid (Scope.empty w)
  have Ha := Lib.hid ha
  clear hel1 hel2 hn1 hn2 hL hM ha
  by_cases hab : a = b
  · subst hab
    have hab : a ≠ bits .xor .i64 a 1 := (xor1_ne a).symm
    have HB := Lib.hid (xor1_i a)
    go_enter Try.func7, Try.ntmps7
    go_wp2_with fail
    refine (new_scope S0.out).mono ?_
    rintro e w1 ⟨m, rfl, s1⟩
    have S1 := Lib.hid s1
    clear s1
    go_wp2_with fail
    generalize bits .xor .i64 a 1 = B at hab HB ⊢
    have Hab := Lib.hid hab
    clear hab
    refine (rnew_scope S1.out m a most).mono ?_
    rintro e w2 ⟨p1, g1, rfl, s2⟩
    have S2 := Lib.hid s2
    clear s2
    go_wp2_with fail
    refine (rnew_scope S2.out m B most).mono ?_
    rintro e w3 ⟨p2, g2, rfl, s3⟩
    have S3 := Lib.hid (ref_new s3)
    clear s3
    go_wp2_with fail
    refine (rrnew_scope S3.out _ a most).mono ?_
    rintro e w4 ⟨q1, h1, rfl, s4⟩
    have S4 := Lib.hid (ref_new s4)
    clear s4
    go_wp2_with fail
    refine (rrnew_scope S4.out _ B most).mono ?_
    rintro e w5 ⟨q2, h2, rfl, s5⟩
    obtain ⟨x1, hx1⟩ : ∃ x1, x1 = w3.heap.size := ⟨_, rfl⟩
    obtain ⟨x2, hx2⟩ : ∃ x2, x2 = w4.heap.size := ⟨_, rfl⟩
    rw [← hx1, ← hx2] at s5
    have lb := cl8_b most
    obtain ⟨l, hl⟩ : ∃ l, l = cl8 most := ⟨_, rfl⟩
    rw [← hl] at s5 lb
    obtain ⟨l1, l8⟩ := lb
    obtain ⟨cz, hcz⟩ : ∃ cz : Cs l, cz.1 = zeros l := ⟨⟨zeros l, zeros_length l⟩, rfl⟩
    rw [← hcz] at s5
    have S5 := Lib.hid (show Scope [] w w5 [ringA p1 m a g1 l MS.zero cz, rringA q1 x1 a h1 l 0 MS.zero cz, stars [rb p2 m B g2 l, gb g2 cz.1], rringA q2 x2 B h2 l 0 MS.zero cz] from arrange (by simpa using s5))
    clear s5 hl hcz S1 S2 S3 S4 hx1 hx2
    go_wp2_with fail
    refine (awake17_scope S5.out).mono ?_
    rintro e w6 ⟨rfl, s6⟩
    have S6 := Lib.hid s6
    clear s6 S5
    go_wp2_with fail
    go_loopw [16] (fun i wr => ∃ (k : Nat) (σ τ ρ : MS) (c1 c2 : Cs l), k ≤ 40 ∧ i = .int .i64 k ∧ Two a B σ τ ρ (2 * k) ∧ Scope [] w wr [ringA p1 m a g1 l (σ) c1, rringA q1 x1 a h1 l (2 * k) (τ) c1, stars [rb p2 m B g2 l, gb g2 c2.1], rringA q2 x2 B h2 l (2 * k) (ρ) c2]) (fun i _ => 40 - (intOf i).toNat)
    case atStart => exact ⟨0, MS.zero, MS.zero, MS.zero, cz, cz, by omega, rfl, ⟨fun _ _ => rfl, fun _ _ => rfl, rfl, by simp [MS.zero], by simp [MS.zero]⟩, S6.out⟩
    case round =>
      obtain ⟨k, σ, τ, ρ, c1, c2, hk, rfl, htw, hs⟩ := hrel
      have Sr := Lib.hid hs; have Tr := Lib.hid htw
      clear hs S6 htw
      by_cases h40 : k < 40
      · have i40 : (k : Int) < 40 := by omega
        have i0 : (0 : Int) ≤ (k : Int) := by omega
        by_cases e1 : k < n1
        · by_cases e2 : k < n2
          · obtain ⟨u, hu⟩ : ∃ u, L[k]? = some u := ⟨_, List.getElem?_eq_getElem (by rw [← Hn1.out]; exact e1)⟩
            obtain ⟨hw, gu, off, rfl, hc⟩ := El1.out k u hu
            have Hw := Lib.hid hw; have Hc := Lib.hid hc
            have j1 : (k : Int) < (n1 : Int) := by omega
            clear hu hw hc
            obtain ⟨u2, hu2⟩ : ∃ u, M[k]? = some u := ⟨_, List.getElem?_eq_getElem (by rw [← Hn2.out]; exact e2)⟩
            obtain ⟨hw2, gu2, off2, rfl, hc2⟩ := El2.out k u2 hu2
            have Hw2 := Lib.hid hw2; have Hc2 := Lib.hid hc2
            have j2 : (k : Int) < (n2 : Int) := by omega
            clear hu2 hw2 hc2
            obtain ⟨d0, d1, d2, d3, d4, d5, d6, d7, d8⟩ := Hc.out _ Sr.out.1
            go_wp2_with fail
            refine (step17_c Ha.out l1 l8 Sr.out Tr.out.one Hw.out (by omega) (by have := Tr.out.bound; omega) (by have := Tr.out.le1; omega)).mono ?_
            rintro e v1 ⟨rfl, σ1, τ1, d1', hr1, s1⟩
            have Q1 := Lib.hid s1; have T1 := Lib.hid (Tr.out.step1 Hab.out hr1)
            clear s1 hr1
            clear d0 d1 d2 d3 d4 d5 d6 d7 d8
            obtain ⟨f0, f1, f2, f3, f4, f5, f6, f7, f8⟩ := Hc2.out _ Q1.out.1
            go_wp2_with fail
            refine (step17_c HB.out l1 l8 (other Q1.out) T1.out.two Hw2.out (by omega) (by have := T1.out.bound; omega) (by have := T1.out.le2; omega)).mono ?_
            rintro e v2 ⟨rfl, σ2, ρ2, d2', hr2, s2⟩
            have Q2 := Lib.hid (other s2); have T2 := Lib.hid (T1.out.flip.step1 (fun e => Hab.out e.symm) hr2).flip
            clear s2 hr2
            clear f0 f1 f2 f3 f4 f5 f6 f7 f8
            go_wp2
            go_roundw
            case rel => exact ⟨k + 1, σ2, τ1, ρ2, d1', d2', by omega, by go_num, T2.out.up (by omega), up2 Q2.out (by omega) (by omega)⟩
            case measure => simp [intOf]; omega
          · obtain ⟨u, hu⟩ : ∃ u, L[k]? = some u := ⟨_, List.getElem?_eq_getElem (by rw [← Hn1.out]; exact e1)⟩
            obtain ⟨hw, gu, off, rfl, hc⟩ := El1.out k u hu
            have Hw := Lib.hid hw; have Hc := Lib.hid hc
            have j1 : (k : Int) < (n1 : Int) := by omega
            clear hu hw hc
            obtain ⟨d0, d1, d2, d3, d4, d5, d6, d7, d8⟩ := Hc.out _ Sr.out.1
            go_wp2_with fail
            refine (step17_c Ha.out l1 l8 Sr.out Tr.out.one Hw.out (by omega) (by have := Tr.out.bound; omega) (by have := Tr.out.le1; omega)).mono ?_
            rintro e v1 ⟨rfl, σ1, τ1, d1', hr1, s1⟩
            have Q1 := Lib.hid s1; have T1 := Lib.hid (Tr.out.step1 Hab.out hr1)
            clear s1 hr1
            clear d0 d1 d2 d3 d4 d5 d6 d7 d8
            go_wp2
            go_roundw
            case rel => exact ⟨k + 1, σ1, τ1, ρ, d1', c2, by omega, by go_num, T1.out.up (by omega), up2 Q1.out (by omega) (by omega)⟩
            case measure => simp [intOf]; omega
        · by_cases e2 : k < n2
          · obtain ⟨u2, hu2⟩ : ∃ u, M[k]? = some u := ⟨_, List.getElem?_eq_getElem (by rw [← Hn2.out]; exact e2)⟩
            obtain ⟨hw2, gu2, off2, rfl, hc2⟩ := El2.out k u2 hu2
            have Hw2 := Lib.hid hw2; have Hc2 := Lib.hid hc2
            have j2 : (k : Int) < (n2 : Int) := by omega
            clear hu2 hw2 hc2
            obtain ⟨f0, f1, f2, f3, f4, f5, f6, f7, f8⟩ := Hc2.out _ Sr.out.1
            go_wp2_with fail
            refine (step17_c HB.out l1 l8 (other Sr.out) Tr.out.two Hw2.out (by omega) (by have := Tr.out.bound; omega) (by have := Tr.out.le2; omega)).mono ?_
            rintro e v2 ⟨rfl, σ2, ρ2, d2', hr2, s2⟩
            have Q2 := Lib.hid (other s2); have T2 := Lib.hid (Tr.out.flip.step1 (fun e => Hab.out e.symm) hr2).flip
            clear s2 hr2
            clear f0 f1 f2 f3 f4 f5 f6 f7 f8
            go_wp2
            go_roundw
            case rel => exact ⟨k + 1, σ2, τ, ρ2, c1, d2', by omega, by go_num, T2.out.up (by omega), up2 Q2.out (by omega) (by omega)⟩
            case measure => simp [intOf]; omega
          · go_wp2
            go_roundw
            case rel => exact ⟨k + 1, σ, τ, ρ, c1, c2, by omega, by go_num, Tr.out.up (by omega), up2 Sr.out (by omega) (by omega)⟩
            case measure => simp [intOf]; omega
      · have hk100 : 2 * k ≤ 100 := by omega
        have t1 := Tr.out.one; have t2 := Tr.out.two
        have aw := t1 (wordL a) rfl; have ah := t1 (headL a) rfl; have bw := t2 (wordL B) rfl; have bh := t2 (headL B) rfl
        have Aw := Lib.hid aw; have Ah := Lib.hid ah; have Bw := Lib.hid bw; have Bh := Lib.hid bh
        clear aw ah bw bh t1 t2
        go_wp2_with fail
        go_loopw [17] (fun i wr => ∃ (k n1 n2 : Nat), k ≤ 2 ∧ i = .int .i64 k ∧ n1 ≤ 100 + k ∧ n2 ≤ 100 + k ∧ Scope [] w wr [ringA p1 m a g1 l (σ) c1, rringA q1 x1 a h1 l n1 (τ) c1, stars [rb p2 m B g2 l, gb g2 c2.1], rringA q2 x2 B h2 l n2 (ρ) c2]) (fun i _ => 2 - (intOf i).toNat)
        case atStart => exact ⟨0, 2 * k, 2 * k, by omega, rfl, by omega, by omega, Sr.out⟩
        case round =>
          obtain ⟨kk, r1, r2, hkk, rfl, hr1, hr2, hs⟩ := hrel
          have Sq := Lib.hid hs
          clear hs Sr
          have hk3 : kk = 0 ∨ kk = 1 ∨ kk = 2 := by omega
          rcases hk3 with rfl | rfl | rfl
          · obtain ⟨_, _, _, y1⟩ := rring_ev Sq.out
            obtain ⟨_, _, _, y2⟩ := rring_ev (other Sq.out)
            have U0 := Lib.hid Sq.out.drew
            have wfa := wordL_wf Ha.out; have wfb := wordL_wf HB.out
            have Wfa := Lib.hid wfa; have Wfb := Lib.hid wfb
            have n11 : IntKind.i64.wrap 11 = 11 := by decide
            have n12 : IntKind.i64.wrap 12 = 12 := by decide
            have n110 : IntKind.i64.wrap (11 + 0) = 11 := by decide
            have n111 : IntKind.i64.wrap (11 + 1) = 12 := by decide
            clear wfa wfb Sq
            have r0 : (World.drew _).cell? ⟨q1, 0, none⟩ = some (ptr x1) ∧ (World.drew _).cell? ⟨q2, 0, none⟩ = some (ptr x2) := ⟨y1, y2⟩
            clear y1 y2
            go_wp2_with fail
            refine wp_region_any (by kernel_rfl) ?_
            change wpAny _ _ _ _ _ _ _ (World.drew _)
            refine wpAny_of_U (S := fun w' => w'.cell? ⟨q1, 0, none⟩ = some (ptr x1) ∧ w'.cell? ⟨q2, 0, none⟩ = some (ptr x2)) (U := [0, 1, 2, 3, 4, 5, 6, 7, 8, 9, 10, 11, 12, 13, 14, 15, 16, 17, 18, 19, 20, 21, 22, 23, 24, 25, 26, 27, 28, 29, 30, 31, 32, 33]) _ _ _ _ ?_
            refine wpAnyU_take (i := 0) (v := ?_) rfl (by kernel_rfl) (by kernel_rfl) (by kernel_rfl) (by kernel_rfl) (fun _ _ _ h => h) (Or.inl ⟨by rfl, ?_⟩) r0 ?_
            rotate_left 1
            · (intro w' hS; (try dsimp only at hS); (try simp only [List.getElem_toArray, List.getElem_cons_succ, List.getElem_cons_zero]); go_simp; (try with_reducible rfl))
            try simp only [Act.put, List.getElem_toArray, List.getElem_cons_succ, List.getElem_cons_zero, List.setIfInBounds_toArray, List.set_cons_zero, List.set_cons_succ]
            refine wpAnyU_take (i := 1) (v := ?_) rfl (by kernel_rfl) (by kernel_rfl) (by kernel_rfl) (by kernel_rfl) (fun _ _ _ h => h) (Or.inl ⟨by rfl, ?_⟩) r0 ?_
            rotate_left 1
            · (intro w' hS; (try dsimp only at hS); (try simp only [List.getElem_toArray, List.getElem_cons_succ, List.getElem_cons_zero]); go_simp; (try with_reducible rfl))
            try simp only [Act.put, List.getElem_toArray, List.getElem_cons_succ, List.getElem_cons_zero, List.setIfInBounds_toArray, List.set_cons_zero, List.set_cons_succ]
            refine wpAnyU_take (i := 2) (v := ?_) rfl (by kernel_rfl) (by kernel_rfl) (by kernel_rfl) (by kernel_rfl) (fun _ _ _ h => h) (Or.inl ⟨by rfl, ?_⟩) r0 ?_
            rotate_left 1
            · (intro w' hS; (try dsimp only at hS); (try simp only [List.getElem_toArray, List.getElem_cons_succ, List.getElem_cons_zero]); go_simp; (try with_reducible rfl))
            try simp only [Act.put, List.getElem_toArray, List.getElem_cons_succ, List.getElem_cons_zero, List.setIfInBounds_toArray, List.set_cons_zero, List.set_cons_succ]
            refine wpAnyU_take (i := 3) (v := ?_) rfl (by kernel_rfl) (by kernel_rfl) (by kernel_rfl) (by kernel_rfl) (fun _ _ _ h => h) (Or.inl ⟨by rfl, ?_⟩) r0 ?_
            rotate_left 1
            · (intro w' hS; (try dsimp only at hS); (try simp only [List.getElem_toArray, List.getElem_cons_succ, List.getElem_cons_zero]); go_simp; (try with_reducible rfl))
            try simp only [Act.put, List.getElem_toArray, List.getElem_cons_succ, List.getElem_cons_zero, List.setIfInBounds_toArray, List.set_cons_zero, List.set_cons_succ]
            refine wpAnyU_take (i := 6) (v := ?_) rfl (by kernel_rfl) (by kernel_rfl) (by kernel_rfl) (by kernel_rfl) (fun _ _ _ h => h) (Or.inl ⟨by rfl, ?_⟩) r0 ?_
            rotate_left 1
            · (intro w' hS; (try dsimp only at hS); (try simp only [List.getElem_toArray, List.getElem_cons_succ, List.getElem_cons_zero]); go_simp; (try with_reducible rfl))
            try simp only [Act.put, List.getElem_toArray, List.getElem_cons_succ, List.getElem_cons_zero, List.setIfInBounds_toArray, List.set_cons_zero, List.set_cons_succ]
            refine wpAnyU_take (i := 7) (v := ?_) rfl (by kernel_rfl) (by kernel_rfl) (by kernel_rfl) (by kernel_rfl) (fun _ _ _ h => h) (Or.inl ⟨by rfl, ?_⟩) r0 ?_
            rotate_left 1
            · (intro w' hS; (try dsimp only at hS); (try simp only [List.getElem_toArray, List.getElem_cons_succ, List.getElem_cons_zero]); go_simp; (try with_reducible rfl))
            try simp only [Act.put, List.getElem_toArray, List.getElem_cons_succ, List.getElem_cons_zero, List.setIfInBounds_toArray, List.set_cons_zero, List.set_cons_succ]
            refine wpAnyU_take (i := 8) (v := ?_) rfl (by kernel_rfl) (by kernel_rfl) (by kernel_rfl) (by kernel_rfl) (fun _ _ _ h => h) (Or.inl ⟨by rfl, ?_⟩) r0 ?_
            rotate_left 1
            · (intro w' hS; (try dsimp only at hS); (try simp only [List.getElem_toArray, List.getElem_cons_succ, List.getElem_cons_zero]); go_simp; (try with_reducible rfl))
            try simp only [Act.put, List.getElem_toArray, List.getElem_cons_succ, List.getElem_cons_zero, List.setIfInBounds_toArray, List.set_cons_zero, List.set_cons_succ]
            refine wpAnyU_take (i := 9) (v := ?_) rfl (by kernel_rfl) (by kernel_rfl) (by kernel_rfl) (by kernel_rfl) (fun _ _ _ h => h) (Or.inl ⟨by rfl, ?_⟩) r0 ?_
            rotate_left 1
            · (intro w' hS; (try dsimp only at hS); (try simp only [List.getElem_toArray, List.getElem_cons_succ, List.getElem_cons_zero]); go_simp; (try with_reducible rfl))
            try simp only [Act.put, List.getElem_toArray, List.getElem_cons_succ, List.getElem_cons_zero, List.setIfInBounds_toArray, List.set_cons_zero, List.set_cons_succ]
            refine wpAnyU_take (i := 10) (v := ?_) rfl (by kernel_rfl) (by kernel_rfl) (by kernel_rfl) (by kernel_rfl) (fun _ _ _ h => h) (Or.inl ⟨by rfl, ?_⟩) r0 ?_
            rotate_left 1
            · (intro w' hS; (try dsimp only at hS); (try simp only [List.getElem_toArray, List.getElem_cons_succ, List.getElem_cons_zero]); go_simp; (try with_reducible rfl))
            try simp only [Act.put, List.getElem_toArray, List.getElem_cons_succ, List.getElem_cons_zero, List.setIfInBounds_toArray, List.set_cons_zero, List.set_cons_succ]
            refine wpAnyU_take (i := 11) (v := ?_) rfl (by kernel_rfl) (by kernel_rfl) (by kernel_rfl) (by kernel_rfl) (fun _ _ _ h => h) (Or.inl ⟨by rfl, ?_⟩) r0 ?_
            rotate_left 1
            · (intro w' hS; (try dsimp only at hS); (try simp only [List.getElem_toArray, List.getElem_cons_succ, List.getElem_cons_zero]); go_simp; (try with_reducible rfl))
            try simp only [Act.put, List.getElem_toArray, List.getElem_cons_succ, List.getElem_cons_zero, List.setIfInBounds_toArray, List.set_cons_zero, List.set_cons_succ]
            refine wpAnyU_take (i := 12) (v := ?_) rfl (by kernel_rfl) (by kernel_rfl) (by kernel_rfl) (by kernel_rfl) (fun _ _ _ h => h) (Or.inl ⟨by rfl, ?_⟩) r0 ?_
            rotate_left 1
            · (intro w' hS; (try dsimp only at hS); (try simp only [List.getElem_toArray, List.getElem_cons_succ, List.getElem_cons_zero]); go_simp; (try with_reducible rfl))
            try simp only [Act.put, List.getElem_toArray, List.getElem_cons_succ, List.getElem_cons_zero, List.setIfInBounds_toArray, List.set_cons_zero, List.set_cons_succ]
            refine wpAnyU_all (rs := [4]) (by kernel_rfl) (by simp) (fun i hi => ?_)
            obtain rfl : i = 4 := by simpa using hi
            refine wpOpU_stepG rfl (by rfl) (fun K hK => ?_)
            go_simp
            refine ((rloc_pure 11 a 0).at U0.out).mono ?_
            rintro e v1 ⟨he, sq⟩
            subst he
            obtain ⟨_, _, _, y1⟩ := rring_ev sq
            obtain ⟨_, _, _, y2⟩ := rring_ev (other sq)
            have r1 : v1.cell? ⟨q1, 0, none⟩ = some (ptr x1) ∧ v1.cell? ⟨q2, 0, none⟩ = some (ptr x2) := ⟨y1, y2⟩
            have U1 := Lib.hid sq
            refine hK _ _ ⟨fun _ => r1, ?_⟩
            clear hK K sq y1 y2 U0 r0
            try simp only [Act.put, List.getElem_toArray, List.getElem_cons_succ, List.getElem_cons_zero, List.setIfInBounds_toArray, List.set_cons_zero, List.set_cons_succ]
            refine wpAnyU_all (rs := [5]) (by kernel_rfl) (by simp) (fun i hi => ?_)
            obtain rfl : i = 5 := by simpa using hi
            refine wpOpU_stepG rfl (by rfl) (fun K hK => ?_)
            go_simp
            refine ((ringpeek (p := p1) (m := m) (g := g1) (l := l) (obj := a) (σ := σ) (c := c1) (wordL a) Wfa.out).at0 U1.out).mono ?_
            rintro e v2 ⟨he, sq⟩
            subst he
            obtain ⟨_, _, _, y1⟩ := rring_ev sq
            obtain ⟨_, _, _, y2⟩ := rring_ev (other sq)
            have r2 : v2.cell? ⟨q1, 0, none⟩ = some (ptr x1) ∧ v2.cell? ⟨q2, 0, none⟩ = some (ptr x2) := ⟨y1, y2⟩
            have U2 := Lib.hid sq
            refine hK _ _ ⟨fun _ => r2, ?_⟩
            clear hK K sq y1 y2 U1 r1
            try simp only [Act.put, List.getElem_toArray, List.getElem_cons_succ, List.getElem_cons_zero, List.setIfInBounds_toArray, List.set_cons_zero, List.set_cons_succ]
            refine wpAnyU_all (rs := [13]) (by kernel_rfl) (by simp) (fun i hi => ?_)
            obtain rfl : i = 13 := by simpa using hi
            refine wpOpU_stepG rfl (by rfl) (fun K hK => ?_)
            go_simp
            refine ((rloc_pure 11 a 0).at U2.out).mono ?_
            rintro e v3 ⟨he, sq⟩
            subst he
            obtain ⟨_, _, _, y1⟩ := rring_ev sq
            obtain ⟨_, _, _, y2⟩ := rring_ev (other sq)
            have r3 : v3.cell? ⟨q1, 0, none⟩ = some (ptr x1) ∧ v3.cell? ⟨q2, 0, none⟩ = some (ptr x2) := ⟨y1, y2⟩
            have U3 := Lib.hid sq
            refine hK _ _ ⟨fun _ => r3, ?_⟩
            clear hK K sq y1 y2 U2 r2
            try simp only [Act.put, List.getElem_toArray, List.getElem_cons_succ, List.getElem_cons_zero, List.setIfInBounds_toArray, List.set_cons_zero, List.set_cons_succ]
            refine wpAnyU_all (rs := [14]) (by kernel_rfl) (by simp) (fun i hi => ?_)
            obtain rfl : i = 14 := by simpa using hi
            refine wpOpU_stepG rfl (by rfl) (fun K hK => ?_)
            go_simp
            refine ((rringpeek (q := q1) (x := x1) (n := r1) (g := h1) (l := l) (obj := a) (τ := τ) (c := c1) (wordL a) (by omega)).at1 U3.out).mono ?_
            rintro e v4 ⟨he, sq⟩
            rw [Aw.out] at he
            subst he
            obtain ⟨_, _, _, y1⟩ := rring_ev sq
            obtain ⟨_, _, _, y2⟩ := rring_ev (other sq)
            have r4 : v4.cell? ⟨q1, 0, none⟩ = some (ptr x1) ∧ v4.cell? ⟨q2, 0, none⟩ = some (ptr x2) := ⟨y1, y2⟩
            have U4 := Lib.hid sq
            refine hK _ _ ⟨fun _ => r4, ?_⟩
            clear hK K sq y1 y2 U3 r3
            try simp only [Act.put, List.getElem_toArray, List.getElem_cons_succ, List.getElem_cons_zero, List.setIfInBounds_toArray, List.set_cons_zero, List.set_cons_succ]
            refine wpAnyU_take (i := 15) (v := ?_) rfl (by kernel_rfl) (by kernel_rfl) (by kernel_rfl) (by kernel_rfl) (fun _ _ _ h => h) (Or.inl ⟨by rfl, ?_⟩) r4 ?_
            rotate_left 1
            · (intro w' hS; (try dsimp only at hS); (try simp only [List.getElem_toArray, List.getElem_cons_succ, List.getElem_cons_zero]); go_simp; (try with_reducible rfl))
            try simp only [Act.put, List.getElem_toArray, List.getElem_cons_succ, List.getElem_cons_zero, List.setIfInBounds_toArray, List.set_cons_zero, List.set_cons_succ]
            refine wpAnyU_take (i := 16) (v := ?_) rfl (by kernel_rfl) (by kernel_rfl) (by kernel_rfl) (by kernel_rfl) (fun _ _ _ h => h) (Or.inl ⟨by rfl, ?_⟩) r4 ?_
            rotate_left 1
            · (intro w' hS; (try dsimp only at hS); (try simp only [List.getElem_toArray, List.getElem_cons_succ, List.getElem_cons_zero]); go_simp; (try with_reducible rfl))
            try simp only [Act.put, List.getElem_toArray, List.getElem_cons_succ, List.getElem_cons_zero, List.setIfInBounds_toArray, List.set_cons_zero, List.set_cons_succ]
            refine wpAnyU_take (i := 17) (v := ?_) rfl (by kernel_rfl) (by kernel_rfl) (by kernel_rfl) (by kernel_rfl) (fun _ _ _ h => h) (Or.inl ⟨by rfl, ?_⟩) r4 ?_
            rotate_left 1
            · (intro w' hS; (try dsimp only at hS); (try simp only [List.getElem_toArray, List.getElem_cons_succ, List.getElem_cons_zero]); go_simp; (try with_reducible rfl))
            try simp only [Act.put, List.getElem_toArray, List.getElem_cons_succ, List.getElem_cons_zero, List.setIfInBounds_toArray, List.set_cons_zero, List.set_cons_succ]
            refine wpAnyU_take (i := 18) (v := ?_) rfl (by kernel_rfl) (by kernel_rfl) (by kernel_rfl) (by kernel_rfl) (fun _ _ _ h => h) (Or.inl ⟨by rfl, ?_⟩) r4 ?_
            rotate_left 1
            · (intro w' hS; (try dsimp only at hS); (try simp only [List.getElem_toArray, List.getElem_cons_succ, List.getElem_cons_zero]); go_simp; (try with_reducible rfl))
            try simp only [Act.put, List.getElem_toArray, List.getElem_cons_succ, List.getElem_cons_zero, List.setIfInBounds_toArray, List.set_cons_zero, List.set_cons_succ]
            refine wpAnyU_take (i := 19) (v := ?_) rfl (by kernel_rfl) (by kernel_rfl) (by kernel_rfl) (by kernel_rfl) (fun _ _ _ h => h) (Or.inl ⟨by rfl, ?_⟩) r4 ?_
            rotate_left 1
            · (intro w' hS; (try dsimp only at hS); (try simp only [List.getElem_toArray, List.getElem_cons_succ, List.getElem_cons_zero]); go_simp; (try with_reducible rfl))
            try simp only [Act.put, List.getElem_toArray, List.getElem_cons_succ, List.getElem_cons_zero, List.setIfInBounds_toArray, List.set_cons_zero, List.set_cons_succ]
            refine wpAnyU_take (i := 20) (v := ?_) rfl (by kernel_rfl) (by kernel_rfl) (by kernel_rfl) (by kernel_rfl) (fun _ _ _ h => h) (Or.inl ⟨by rfl, ?_⟩) r4 ?_
            rotate_left 1
            · (intro w' hS; (try dsimp only at hS); (try simp only [List.getElem_toArray, List.getElem_cons_succ, List.getElem_cons_zero]); go_simp; (try with_reducible rfl))
            try simp only [Act.put, List.getElem_toArray, List.getElem_cons_succ, List.getElem_cons_zero, List.setIfInBounds_toArray, List.set_cons_zero, List.set_cons_succ]
            refine wpAnyU_take (i := 23) (v := ?_) rfl (by kernel_rfl) (by kernel_rfl) (by kernel_rfl) (by kernel_rfl) (fun _ _ _ h => h) (Or.inl ⟨by rfl, ?_⟩) r4 ?_
            rotate_left 1
            · (intro w' hS; (try dsimp only at hS); (try simp only [List.getElem_toArray, List.getElem_cons_succ, List.getElem_cons_zero]); go_simp; (try with_reducible rfl))
            try simp only [Act.put, List.getElem_toArray, List.getElem_cons_succ, List.getElem_cons_zero, List.setIfInBounds_toArray, List.set_cons_zero, List.set_cons_succ]
            refine wpAnyU_take (i := 24) (v := ?_) rfl (by kernel_rfl) (by kernel_rfl) (by kernel_rfl) (by kernel_rfl) (fun _ _ _ h => h) (Or.inl ⟨by rfl, ?_⟩) r4 ?_
            rotate_left 1
            · (intro w' hS; (try dsimp only at hS); (try simp only [List.getElem_toArray, List.getElem_cons_succ, List.getElem_cons_zero]); go_simp; (try with_reducible rfl))
            try simp only [Act.put, List.getElem_toArray, List.getElem_cons_succ, List.getElem_cons_zero, List.setIfInBounds_toArray, List.set_cons_zero, List.set_cons_succ]
            refine wpAnyU_take (i := 25) (v := ?_) rfl (by kernel_rfl) (by kernel_rfl) (by kernel_rfl) (by kernel_rfl) (fun _ _ _ h => h) (Or.inl ⟨by rfl, ?_⟩) r4 ?_
            rotate_left 1
            · (intro w' hS; (try dsimp only at hS); (try simp only [List.getElem_toArray, List.getElem_cons_succ, List.getElem_cons_zero]); go_simp; (try with_reducible rfl))
            try simp only [Act.put, List.getElem_toArray, List.getElem_cons_succ, List.getElem_cons_zero, List.setIfInBounds_toArray, List.set_cons_zero, List.set_cons_succ]
            refine wpAnyU_take (i := 26) (v := ?_) rfl (by kernel_rfl) (by kernel_rfl) (by kernel_rfl) (by kernel_rfl) (fun _ _ _ h => h) (Or.inl ⟨by rfl, ?_⟩) r4 ?_
            rotate_left 1
            · (intro w' hS; (try dsimp only at hS); (try simp only [List.getElem_toArray, List.getElem_cons_succ, List.getElem_cons_zero]); go_simp; (try with_reducible rfl))
            try simp only [Act.put, List.getElem_toArray, List.getElem_cons_succ, List.getElem_cons_zero, List.setIfInBounds_toArray, List.set_cons_zero, List.set_cons_succ]
            refine wpAnyU_take (i := 27) (v := ?_) rfl (by kernel_rfl) (by kernel_rfl) (by kernel_rfl) (by kernel_rfl) (fun _ _ _ h => h) (Or.inl ⟨by rfl, ?_⟩) r4 ?_
            rotate_left 1
            · (intro w' hS; (try dsimp only at hS); (try simp only [List.getElem_toArray, List.getElem_cons_succ, List.getElem_cons_zero]); go_simp; (try with_reducible rfl))
            try simp only [Act.put, List.getElem_toArray, List.getElem_cons_succ, List.getElem_cons_zero, List.setIfInBounds_toArray, List.set_cons_zero, List.set_cons_succ]
            refine wpAnyU_take (i := 28) (v := ?_) rfl (by kernel_rfl) (by kernel_rfl) (by kernel_rfl) (by kernel_rfl) (fun _ _ _ h => h) (Or.inl ⟨by rfl, ?_⟩) r4 ?_
            rotate_left 1
            · (intro w' hS; (try dsimp only at hS); (try simp only [List.getElem_toArray, List.getElem_cons_succ, List.getElem_cons_zero]); go_simp; (try with_reducible rfl))
            try simp only [Act.put, List.getElem_toArray, List.getElem_cons_succ, List.getElem_cons_zero, List.setIfInBounds_toArray, List.set_cons_zero, List.set_cons_succ]
            refine wpAnyU_take (i := 29) (v := ?_) rfl (by kernel_rfl) (by kernel_rfl) (by kernel_rfl) (by kernel_rfl) (fun _ _ _ h => h) (Or.inl ⟨by rfl, ?_⟩) r4 ?_
            rotate_left 1
            · (intro w' hS; (try dsimp only at hS); (try simp only [List.getElem_toArray, List.getElem_cons_succ, List.getElem_cons_zero]); go_simp; (try with_reducible rfl))
            try simp only [Act.put, List.getElem_toArray, List.getElem_cons_succ, List.getElem_cons_zero, List.setIfInBounds_toArray, List.set_cons_zero, List.set_cons_succ]
            refine wpAnyU_all (rs := [21]) (by kernel_rfl) (by simp) (fun i hi => ?_)
            obtain rfl : i = 21 := by simpa using hi
            refine wpOpU_stepG rfl (by rfl) (fun K hK => ?_)
            go_simp
            refine ((rloc_pure 11 B 0).at U4.out).mono ?_
            rintro e v5 ⟨he, sq⟩
            subst he
            obtain ⟨_, _, _, y1⟩ := rring_ev sq
            obtain ⟨_, _, _, y2⟩ := rring_ev (other sq)
            have r5 : v5.cell? ⟨q1, 0, none⟩ = some (ptr x1) ∧ v5.cell? ⟨q2, 0, none⟩ = some (ptr x2) := ⟨y1, y2⟩
            have U5 := Lib.hid sq
            refine hK _ _ ⟨fun _ => r5, ?_⟩
            clear hK K sq y1 y2 U4 r4
            try simp only [Act.put, List.getElem_toArray, List.getElem_cons_succ, List.getElem_cons_zero, List.setIfInBounds_toArray, List.set_cons_zero, List.set_cons_succ]
            refine wpAnyU_all (rs := [22]) (by kernel_rfl) (by simp) (fun i hi => ?_)
            obtain rfl : i = 22 := by simpa using hi
            refine wpOpU_stepG rfl (by rfl) (fun K hK => ?_)
            go_simp
            refine ((ringpeek (p := p1) (m := m) (g := g1) (l := l) (obj := a) (σ := σ) (c := c1) (wordL B) Wfb.out).at0 U5.out).mono ?_
            rintro e v6 ⟨he, sq⟩
            subst he
            obtain ⟨_, _, _, y1⟩ := rring_ev sq
            obtain ⟨_, _, _, y2⟩ := rring_ev (other sq)
            have r6 : v6.cell? ⟨q1, 0, none⟩ = some (ptr x1) ∧ v6.cell? ⟨q2, 0, none⟩ = some (ptr x2) := ⟨y1, y2⟩
            have U6 := Lib.hid sq
            refine hK _ _ ⟨fun _ => r6, ?_⟩
            clear hK K sq y1 y2 U5 r5
            try simp only [Act.put, List.getElem_toArray, List.getElem_cons_succ, List.getElem_cons_zero, List.setIfInBounds_toArray, List.set_cons_zero, List.set_cons_succ]
            refine wpAnyU_all (rs := [30]) (by kernel_rfl) (by simp) (fun i hi => ?_)
            obtain rfl : i = 30 := by simpa using hi
            refine wpOpU_stepG rfl (by rfl) (fun K hK => ?_)
            go_simp
            refine ((rloc_pure 11 B 0).at U6.out).mono ?_
            rintro e v7 ⟨he, sq⟩
            subst he
            obtain ⟨_, _, _, y1⟩ := rring_ev sq
            obtain ⟨_, _, _, y2⟩ := rring_ev (other sq)
            have r7 : v7.cell? ⟨q1, 0, none⟩ = some (ptr x1) ∧ v7.cell? ⟨q2, 0, none⟩ = some (ptr x2) := ⟨y1, y2⟩
            have U7 := Lib.hid sq
            refine hK _ _ ⟨fun _ => r7, ?_⟩
            clear hK K sq y1 y2 U6 r6
            try simp only [Act.put, List.getElem_toArray, List.getElem_cons_succ, List.getElem_cons_zero, List.setIfInBounds_toArray, List.set_cons_zero, List.set_cons_succ]
            refine wpAnyU_all (rs := [31]) (by kernel_rfl) (by simp) (fun i hi => ?_)
            obtain rfl : i = 31 := by simpa using hi
            refine wpOpU_stepG rfl (by rfl) (fun K hK => ?_)
            go_simp
            refine (rringpeek3 (wordL B) (by omega) U7.out).mono ?_
            rintro e v8 ⟨he, sq⟩
            rw [Bw.out] at he
            subst he
            obtain ⟨_, _, _, y1⟩ := rring_ev sq
            obtain ⟨_, _, _, y2⟩ := rring_ev (other sq)
            have r8 : v8.cell? ⟨q1, 0, none⟩ = some (ptr x1) ∧ v8.cell? ⟨q2, 0, none⟩ = some (ptr x2) := ⟨y1, y2⟩
            have U8 := Lib.hid sq
            refine hK _ _ ⟨fun _ => r8, ?_⟩
            clear hK K sq y1 y2 U7 r7
            try simp only [Act.put, List.getElem_toArray, List.getElem_cons_succ, List.getElem_cons_zero, List.setIfInBounds_toArray, List.set_cons_zero, List.set_cons_succ]
            refine wpAnyU_take (i := 32) (v := ?_) rfl (by kernel_rfl) (by kernel_rfl) (by kernel_rfl) (by kernel_rfl) (fun _ _ _ h => h) (Or.inl ⟨by rfl, ?_⟩) r8 ?_
            rotate_left 1
            · (intro w' hS; (try dsimp only at hS); (try simp only [List.getElem_toArray, List.getElem_cons_succ, List.getElem_cons_zero]); go_simp; (try with_reducible rfl))
            try simp only [Act.put, List.getElem_toArray, List.getElem_cons_succ, List.getElem_cons_zero, List.setIfInBounds_toArray, List.set_cons_zero, List.set_cons_succ]
            refine wpAnyU_take (i := 33) (v := ?_) rfl (by kernel_rfl) (by kernel_rfl) (by kernel_rfl) (by kernel_rfl) (fun _ _ _ h => h) (Or.inl ⟨by rfl, ?_⟩) r8 ?_
            rotate_left 1
            · (intro w' hS; (try dsimp only at hS); (try simp only [List.getElem_toArray, List.getElem_cons_succ, List.getElem_cons_zero]); go_simp; (try with_reducible rfl))
            try simp only [Act.put, List.getElem_toArray, List.getElem_cons_succ, List.getElem_cons_zero, List.setIfInBounds_toArray, List.set_cons_zero, List.set_cons_succ]
            refine wpAnyU_done (by kernel_rfl) ?_ _
            clear r8
            go_wp2
            go_roundw
            case rel => exact ⟨1, r1 + 1, r2 + 1, by omega, by go_num, by omega, by omega, U8.out⟩
            case measure => simp [intOf]
          · obtain ⟨_, _, _, y1⟩ := rring_ev Sq.out
            obtain ⟨_, _, _, y2⟩ := rring_ev (other Sq.out)
            have U0 := Lib.hid Sq.out.drew
            have wfa := headL_wf Ha.out; have wfb := headL_wf HB.out
            have Wfa := Lib.hid wfa; have Wfb := Lib.hid wfb
            have n11 : IntKind.i64.wrap 11 = 11 := by decide
            have n12 : IntKind.i64.wrap 12 = 12 := by decide
            have n110 : IntKind.i64.wrap (11 + 0) = 11 := by decide
            have n111 : IntKind.i64.wrap (11 + 1) = 12 := by decide
            clear wfa wfb Sq
            have r0 : (World.drew _).cell? ⟨q1, 0, none⟩ = some (ptr x1) ∧ (World.drew _).cell? ⟨q2, 0, none⟩ = some (ptr x2) := ⟨y1, y2⟩
            clear y1 y2
            go_wp2_with fail
            refine wp_region_any (by kernel_rfl) ?_
            change wpAny _ _ _ _ _ _ _ (World.drew _)
            refine wpAny_of_U (S := fun w' => w'.cell? ⟨q1, 0, none⟩ = some (ptr x1) ∧ w'.cell? ⟨q2, 0, none⟩ = some (ptr x2)) (U := [0, 1, 2, 3, 4, 5, 6, 7, 8, 9, 10, 11, 12, 13, 14, 15, 16, 17, 18, 19, 20, 21, 22, 23, 24, 25, 26, 27, 28, 29, 30, 31, 32, 33]) _ _ _ _ ?_
            refine wpAnyU_take (i := 0) (v := ?_) rfl (by kernel_rfl) (by kernel_rfl) (by kernel_rfl) (by kernel_rfl) (fun _ _ _ h => h) (Or.inl ⟨by rfl, ?_⟩) r0 ?_
            rotate_left 1
            · (intro w' hS; (try dsimp only at hS); (try simp only [List.getElem_toArray, List.getElem_cons_succ, List.getElem_cons_zero]); go_simp; (try with_reducible rfl))
            try simp only [Act.put, List.getElem_toArray, List.getElem_cons_succ, List.getElem_cons_zero, List.setIfInBounds_toArray, List.set_cons_zero, List.set_cons_succ]
            refine wpAnyU_take (i := 1) (v := ?_) rfl (by kernel_rfl) (by kernel_rfl) (by kernel_rfl) (by kernel_rfl) (fun _ _ _ h => h) (Or.inl ⟨by rfl, ?_⟩) r0 ?_
            rotate_left 1
            · (intro w' hS; (try dsimp only at hS); (try simp only [List.getElem_toArray, List.getElem_cons_succ, List.getElem_cons_zero]); go_simp; (try with_reducible rfl))
            try simp only [Act.put, List.getElem_toArray, List.getElem_cons_succ, List.getElem_cons_zero, List.setIfInBounds_toArray, List.set_cons_zero, List.set_cons_succ]
            refine wpAnyU_take (i := 2) (v := ?_) rfl (by kernel_rfl) (by kernel_rfl) (by kernel_rfl) (by kernel_rfl) (fun _ _ _ h => h) (Or.inl ⟨by rfl, ?_⟩) r0 ?_
            rotate_left 1
            · (intro w' hS; (try dsimp only at hS); (try simp only [List.getElem_toArray, List.getElem_cons_succ, List.getElem_cons_zero]); go_simp; (try with_reducible rfl))
            try simp only [Act.put, List.getElem_toArray, List.getElem_cons_succ, List.getElem_cons_zero, List.setIfInBounds_toArray, List.set_cons_zero, List.set_cons_succ]
            refine wpAnyU_take (i := 3) (v := ?_) rfl (by kernel_rfl) (by kernel_rfl) (by kernel_rfl) (by kernel_rfl) (fun _ _ _ h => h) (Or.inl ⟨by rfl, ?_⟩) r0 ?_
            rotate_left 1
            · (intro w' hS; (try dsimp only at hS); (try simp only [List.getElem_toArray, List.getElem_cons_succ, List.getElem_cons_zero]); go_simp; (try with_reducible rfl))
            try simp only [Act.put, List.getElem_toArray, List.getElem_cons_succ, List.getElem_cons_zero, List.setIfInBounds_toArray, List.set_cons_zero, List.set_cons_succ]
            refine wpAnyU_take (i := 6) (v := ?_) rfl (by kernel_rfl) (by kernel_rfl) (by kernel_rfl) (by kernel_rfl) (fun _ _ _ h => h) (Or.inl ⟨by rfl, ?_⟩) r0 ?_
            rotate_left 1
            · (intro w' hS; (try dsimp only at hS); (try simp only [List.getElem_toArray, List.getElem_cons_succ, List.getElem_cons_zero]); go_simp; (try with_reducible rfl))
            try simp only [Act.put, List.getElem_toArray, List.getElem_cons_succ, List.getElem_cons_zero, List.setIfInBounds_toArray, List.set_cons_zero, List.set_cons_succ]
            refine wpAnyU_take (i := 7) (v := ?_) rfl (by kernel_rfl) (by kernel_rfl) (by kernel_rfl) (by kernel_rfl) (fun _ _ _ h => h) (Or.inl ⟨by rfl, ?_⟩) r0 ?_
            rotate_left 1
            · (intro w' hS; (try dsimp only at hS); (try simp only [List.getElem_toArray, List.getElem_cons_succ, List.getElem_cons_zero]); go_simp; (try with_reducible rfl))
            try simp only [Act.put, List.getElem_toArray, List.getElem_cons_succ, List.getElem_cons_zero, List.setIfInBounds_toArray, List.set_cons_zero, List.set_cons_succ]
            refine wpAnyU_take (i := 8) (v := ?_) rfl (by kernel_rfl) (by kernel_rfl) (by kernel_rfl) (by kernel_rfl) (fun _ _ _ h => h) (Or.inl ⟨by rfl, ?_⟩) r0 ?_
            rotate_left 1
            · (intro w' hS; (try dsimp only at hS); (try simp only [List.getElem_toArray, List.getElem_cons_succ, List.getElem_cons_zero]); go_simp; (try with_reducible rfl))
            try simp only [Act.put, List.getElem_toArray, List.getElem_cons_succ, List.getElem_cons_zero, List.setIfInBounds_toArray, List.set_cons_zero, List.set_cons_succ]
            refine wpAnyU_take (i := 9) (v := ?_) rfl (by kernel_rfl) (by kernel_rfl) (by kernel_rfl) (by kernel_rfl) (fun _ _ _ h => h) (Or.inl ⟨by rfl, ?_⟩) r0 ?_
            rotate_left 1
            · (intro w' hS; (try dsimp only at hS); (try simp only [List.getElem_toArray, List.getElem_cons_succ, List.getElem_cons_zero]); go_simp; (try with_reducible rfl))
            try simp only [Act.put, List.getElem_toArray, List.getElem_cons_succ, List.getElem_cons_zero, List.setIfInBounds_toArray, List.set_cons_zero, List.set_cons_succ]
            refine wpAnyU_take (i := 10) (v := ?_) rfl (by kernel_rfl) (by kernel_rfl) (by kernel_rfl) (by kernel_rfl) (fun _ _ _ h => h) (Or.inl ⟨by rfl, ?_⟩) r0 ?_
            rotate_left 1
            · (intro w' hS; (try dsimp only at hS); (try simp only [List.getElem_toArray, List.getElem_cons_succ, List.getElem_cons_zero]); go_simp; (try with_reducible rfl))
            try simp only [Act.put, List.getElem_toArray, List.getElem_cons_succ, List.getElem_cons_zero, List.setIfInBounds_toArray, List.set_cons_zero, List.set_cons_succ]
            refine wpAnyU_take (i := 11) (v := ?_) rfl (by kernel_rfl) (by kernel_rfl) (by kernel_rfl) (by kernel_rfl) (fun _ _ _ h => h) (Or.inl ⟨by rfl, ?_⟩) r0 ?_
            rotate_left 1
            · (intro w' hS; (try dsimp only at hS); (try simp only [List.getElem_toArray, List.getElem_cons_succ, List.getElem_cons_zero]); go_simp; (try with_reducible rfl))
            try simp only [Act.put, List.getElem_toArray, List.getElem_cons_succ, List.getElem_cons_zero, List.setIfInBounds_toArray, List.set_cons_zero, List.set_cons_succ]
            refine wpAnyU_take (i := 12) (v := ?_) rfl (by kernel_rfl) (by kernel_rfl) (by kernel_rfl) (by kernel_rfl) (fun _ _ _ h => h) (Or.inl ⟨by rfl, ?_⟩) r0 ?_
            rotate_left 1
            · (intro w' hS; (try dsimp only at hS); (try simp only [List.getElem_toArray, List.getElem_cons_succ, List.getElem_cons_zero]); go_simp; (try with_reducible rfl))
            try simp only [Act.put, List.getElem_toArray, List.getElem_cons_succ, List.getElem_cons_zero, List.setIfInBounds_toArray, List.set_cons_zero, List.set_cons_succ]
            refine wpAnyU_all (rs := [4]) (by kernel_rfl) (by simp) (fun i hi => ?_)
            obtain rfl : i = 4 := by simpa using hi
            refine wpOpU_stepG rfl (by rfl) (fun K hK => ?_)
            go_simp
            refine ((rloc_pure 12 a 0).at U0.out).mono ?_
            rintro e v1 ⟨he, sq⟩
            subst he
            obtain ⟨_, _, _, y1⟩ := rring_ev sq
            obtain ⟨_, _, _, y2⟩ := rring_ev (other sq)
            have r1 : v1.cell? ⟨q1, 0, none⟩ = some (ptr x1) ∧ v1.cell? ⟨q2, 0, none⟩ = some (ptr x2) := ⟨y1, y2⟩
            have U1 := Lib.hid sq
            refine hK _ _ ⟨fun _ => r1, ?_⟩
            clear hK K sq y1 y2 U0 r0
            try simp only [Act.put, List.getElem_toArray, List.getElem_cons_succ, List.getElem_cons_zero, List.setIfInBounds_toArray, List.set_cons_zero, List.set_cons_succ]
            refine wpAnyU_all (rs := [5]) (by kernel_rfl) (by simp) (fun i hi => ?_)
            obtain rfl : i = 5 := by simpa using hi
            refine wpOpU_stepG rfl (by rfl) (fun K hK => ?_)
            go_simp
            refine ((ringpeek (p := p1) (m := m) (g := g1) (l := l) (obj := a) (σ := σ) (c := c1) (headL a) Wfa.out).at0 U1.out).mono ?_
            rintro e v2 ⟨he, sq⟩
            subst he
            obtain ⟨_, _, _, y1⟩ := rring_ev sq
            obtain ⟨_, _, _, y2⟩ := rring_ev (other sq)
            have r2 : v2.cell? ⟨q1, 0, none⟩ = some (ptr x1) ∧ v2.cell? ⟨q2, 0, none⟩ = some (ptr x2) := ⟨y1, y2⟩
            have U2 := Lib.hid sq
            refine hK _ _ ⟨fun _ => r2, ?_⟩
            clear hK K sq y1 y2 U1 r1
            try simp only [Act.put, List.getElem_toArray, List.getElem_cons_succ, List.getElem_cons_zero, List.setIfInBounds_toArray, List.set_cons_zero, List.set_cons_succ]
            refine wpAnyU_all (rs := [13]) (by kernel_rfl) (by simp) (fun i hi => ?_)
            obtain rfl : i = 13 := by simpa using hi
            refine wpOpU_stepG rfl (by rfl) (fun K hK => ?_)
            go_simp
            refine ((rloc_pure 12 a 0).at U2.out).mono ?_
            rintro e v3 ⟨he, sq⟩
            subst he
            obtain ⟨_, _, _, y1⟩ := rring_ev sq
            obtain ⟨_, _, _, y2⟩ := rring_ev (other sq)
            have r3 : v3.cell? ⟨q1, 0, none⟩ = some (ptr x1) ∧ v3.cell? ⟨q2, 0, none⟩ = some (ptr x2) := ⟨y1, y2⟩
            have U3 := Lib.hid sq
            refine hK _ _ ⟨fun _ => r3, ?_⟩
            clear hK K sq y1 y2 U2 r2
            try simp only [Act.put, List.getElem_toArray, List.getElem_cons_succ, List.getElem_cons_zero, List.setIfInBounds_toArray, List.set_cons_zero, List.set_cons_succ]
            refine wpAnyU_all (rs := [14]) (by kernel_rfl) (by simp) (fun i hi => ?_)
            obtain rfl : i = 14 := by simpa using hi
            refine wpOpU_stepG rfl (by rfl) (fun K hK => ?_)
            go_simp
            refine ((rringpeek (q := q1) (x := x1) (n := r1) (g := h1) (l := l) (obj := a) (τ := τ) (c := c1) (headL a) (by omega)).at1 U3.out).mono ?_
            rintro e v4 ⟨he, sq⟩
            rw [Ah.out] at he
            subst he
            obtain ⟨_, _, _, y1⟩ := rring_ev sq
            obtain ⟨_, _, _, y2⟩ := rring_ev (other sq)
            have r4 : v4.cell? ⟨q1, 0, none⟩ = some (ptr x1) ∧ v4.cell? ⟨q2, 0, none⟩ = some (ptr x2) := ⟨y1, y2⟩
            have U4 := Lib.hid sq
            refine hK _ _ ⟨fun _ => r4, ?_⟩
            clear hK K sq y1 y2 U3 r3
            try simp only [Act.put, List.getElem_toArray, List.getElem_cons_succ, List.getElem_cons_zero, List.setIfInBounds_toArray, List.set_cons_zero, List.set_cons_succ]
            refine wpAnyU_take (i := 15) (v := ?_) rfl (by kernel_rfl) (by kernel_rfl) (by kernel_rfl) (by kernel_rfl) (fun _ _ _ h => h) (Or.inl ⟨by rfl, ?_⟩) r4 ?_
            rotate_left 1
            · (intro w' hS; (try dsimp only at hS); (try simp only [List.getElem_toArray, List.getElem_cons_succ, List.getElem_cons_zero]); go_simp; (try with_reducible rfl))
            try simp only [Act.put, List.getElem_toArray, List.getElem_cons_succ, List.getElem_cons_zero, List.setIfInBounds_toArray, List.set_cons_zero, List.set_cons_succ]
            refine wpAnyU_take (i := 16) (v := ?_) rfl (by kernel_rfl) (by kernel_rfl) (by kernel_rfl) (by kernel_rfl) (fun _ _ _ h => h) (Or.inl ⟨by rfl, ?_⟩) r4 ?_
            rotate_left 1
            · (intro w' hS; (try dsimp only at hS); (try simp only [List.getElem_toArray, List.getElem_cons_succ, List.getElem_cons_zero]); go_simp; (try with_reducible rfl))
            try simp only [Act.put, List.getElem_toArray, List.getElem_cons_succ, List.getElem_cons_zero, List.setIfInBounds_toArray, List.set_cons_zero, List.set_cons_succ]
            refine wpAnyU_take (i := 17) (v := ?_) rfl (by kernel_rfl) (by kernel_rfl) (by kernel_rfl) (by kernel_rfl) (fun _ _ _ h => h) (Or.inl ⟨by rfl, ?_⟩) r4 ?_
            rotate_left 1
            · (intro w' hS; (try dsimp only at hS); (try simp only [List.getElem_toArray, List.getElem_cons_succ, List.getElem_cons_zero]); go_simp; (try with_reducible rfl))
            try simp only [Act.put, List.getElem_toArray, List.getElem_cons_succ, List.getElem_cons_zero, List.setIfInBounds_toArray, List.set_cons_zero, List.set_cons_succ]
            refine wpAnyU_take (i := 18) (v := ?_) rfl (by kernel_rfl) (by kernel_rfl) (by kernel_rfl) (by kernel_rfl) (fun _ _ _ h => h) (Or.inl ⟨by rfl, ?_⟩) r4 ?_
            rotate_left 1
            · (intro w' hS; (try dsimp only at hS); (try simp only [List.getElem_toArray, List.getElem_cons_succ, List.getElem_cons_zero]); go_simp; (try with_reducible rfl))
            try simp only [Act.put, List.getElem_toArray, List.getElem_cons_succ, List.getElem_cons_zero, List.setIfInBounds_toArray, List.set_cons_zero, List.set_cons_succ]
            refine wpAnyU_take (i := 19) (v := ?_) rfl (by kernel_rfl) (by kernel_rfl) (by kernel_rfl) (by kernel_rfl) (fun _ _ _ h => h) (Or.inl ⟨by rfl, ?_⟩) r4 ?_
            rotate_left 1
            · (intro w' hS; (try dsimp only at hS); (try simp only [List.getElem_toArray, List.getElem_cons_succ, List.getElem_cons_zero]); go_simp; (try with_reducible rfl))
            try simp only [Act.put, List.getElem_toArray, List.getElem_cons_succ, List.getElem_cons_zero, List.setIfInBounds_toArray, List.set_cons_zero, List.set_cons_succ]
            refine wpAnyU_take (i := 20) (v := ?_) rfl (by kernel_rfl) (by kernel_rfl) (by kernel_rfl) (by kernel_rfl) (fun _ _ _ h => h) (Or.inl ⟨by rfl, ?_⟩) r4 ?_
            rotate_left 1
            · (intro w' hS; (try dsimp only at hS); (try simp only [List.getElem_toArray, List.getElem_cons_succ, List.getElem_cons_zero]); go_simp; (try with_reducible rfl))
            try simp only [Act.put, List.getElem_toArray, List.getElem_cons_succ, List.getElem_cons_zero, List.setIfInBounds_toArray, List.set_cons_zero, List.set_cons_succ]
            refine wpAnyU_take (i := 23) (v := ?_) rfl (by kernel_rfl) (by kernel_rfl) (by kernel_rfl) (by kernel_rfl) (fun _ _ _ h => h) (Or.inl ⟨by rfl, ?_⟩) r4 ?_
            rotate_left 1
            · (intro w' hS; (try dsimp only at hS); (try simp only [List.getElem_toArray, List.getElem_cons_succ, List.getElem_cons_zero]); go_simp; (try with_reducible rfl))
            try simp only [Act.put, List.getElem_toArray, List.getElem_cons_succ, List.getElem_cons_zero, List.setIfInBounds_toArray, List.set_cons_zero, List.set_cons_succ]
            refine wpAnyU_take (i := 24) (v := ?_) rfl (by kernel_rfl) (by kernel_rfl) (by kernel_rfl) (by kernel_rfl) (fun _ _ _ h => h) (Or.inl ⟨by rfl, ?_⟩) r4 ?_
            rotate_left 1
            · (intro w' hS; (try dsimp only at hS); (try simp only [List.getElem_toArray, List.getElem_cons_succ, List.getElem_cons_zero]); go_simp; (try with_reducible rfl))
            try simp only [Act.put, List.getElem_toArray, List.getElem_cons_succ, List.getElem_cons_zero, List.setIfInBounds_toArray, List.set_cons_zero, List.set_cons_succ]
            refine wpAnyU_take (i := 25) (v := ?_) rfl (by kernel_rfl) (by kernel_rfl) (by kernel_rfl) (by kernel_rfl) (fun _ _ _ h => h) (Or.inl ⟨by rfl, ?_⟩) r4 ?_
            rotate_left 1
            · (intro w' hS; (try dsimp only at hS); (try simp only [List.getElem_toArray, List.getElem_cons_succ, List.getElem_cons_zero]); go_simp; (try with_reducible rfl))
            try simp only [Act.put, List.getElem_toArray, List.getElem_cons_succ, List.getElem_cons_zero, List.setIfInBounds_toArray, List.set_cons_zero, List.set_cons_succ]
            refine wpAnyU_take (i := 26) (v := ?_) rfl (by kernel_rfl) (by kernel_rfl) (by kernel_rfl) (by kernel_rfl) (fun _ _ _ h => h) (Or.inl ⟨by rfl, ?_⟩) r4 ?_
            rotate_left 1
            · (intro w' hS; (try dsimp only at hS); (try simp only [List.getElem_toArray, List.getElem_cons_succ, List.getElem_cons_zero]); go_simp; (try with_reducible rfl))
            try simp only [Act.put, List.getElem_toArray, List.getElem_cons_succ, List.getElem_cons_zero, List.setIfInBounds_toArray, List.set_cons_zero, List.set_cons_succ]
            refine wpAnyU_take (i := 27) (v := ?_) rfl (by kernel_rfl) (by kernel_rfl) (by kernel_rfl) (by kernel_rfl) (fun _ _ _ h => h) (Or.inl ⟨by rfl, ?_⟩) r4 ?_
            rotate_left 1
            · (intro w' hS; (try dsimp only at hS); (try simp only [List.getElem_toArray, List.getElem_cons_succ, List.getElem_cons_zero]); go_simp; (try with_reducible rfl))
            try simp only [Act.put, List.getElem_toArray, List.getElem_cons_succ, List.getElem_cons_zero, List.setIfInBounds_toArray, List.set_cons_zero, List.set_cons_succ]
            refine wpAnyU_take (i := 28) (v := ?_) rfl (by kernel_rfl) (by kernel_rfl) (by kernel_rfl) (by kernel_rfl) (fun _ _ _ h => h) (Or.inl ⟨by rfl, ?_⟩) r4 ?_
            rotate_left 1
            · (intro w' hS; (try dsimp only at hS); (try simp only [List.getElem_toArray, List.getElem_cons_succ, List.getElem_cons_zero]); go_simp; (try with_reducible rfl))
            try simp only [Act.put, List.getElem_toArray, List.getElem_cons_succ, List.getElem_cons_zero, List.setIfInBounds_toArray, List.set_cons_zero, List.set_cons_succ]
            refine wpAnyU_take (i := 29) (v := ?_) rfl (by kernel_rfl) (by kernel_rfl) (by kernel_rfl) (by kernel_rfl) (fun _ _ _ h => h) (Or.inl ⟨by rfl, ?_⟩) r4 ?_
            rotate_left 1
            · (intro w' hS; (try dsimp only at hS); (try simp only [List.getElem_toArray, List.getElem_cons_succ, List.getElem_cons_zero]); go_simp; (try with_reducible rfl))
            try simp only [Act.put, List.getElem_toArray, List.getElem_cons_succ, List.getElem_cons_zero, List.setIfInBounds_toArray, List.set_cons_zero, List.set_cons_succ]
            refine wpAnyU_all (rs := [21]) (by kernel_rfl) (by simp) (fun i hi => ?_)
            obtain rfl : i = 21 := by simpa using hi
            refine wpOpU_stepG rfl (by rfl) (fun K hK => ?_)
            go_simp
            refine ((rloc_pure 12 B 0).at U4.out).mono ?_
            rintro e v5 ⟨he, sq⟩
            subst he
            obtain ⟨_, _, _, y1⟩ := rring_ev sq
            obtain ⟨_, _, _, y2⟩ := rring_ev (other sq)
            have r5 : v5.cell? ⟨q1, 0, none⟩ = some (ptr x1) ∧ v5.cell? ⟨q2, 0, none⟩ = some (ptr x2) := ⟨y1, y2⟩
            have U5 := Lib.hid sq
            refine hK _ _ ⟨fun _ => r5, ?_⟩
            clear hK K sq y1 y2 U4 r4
            try simp only [Act.put, List.getElem_toArray, List.getElem_cons_succ, List.getElem_cons_zero, List.setIfInBounds_toArray, List.set_cons_zero, List.set_cons_succ]
            refine wpAnyU_all (rs := [22]) (by kernel_rfl) (by simp) (fun i hi => ?_)
            obtain rfl : i = 22 := by simpa using hi
            refine wpOpU_stepG rfl (by rfl) (fun K hK => ?_)
            go_simp
            refine ((ringpeek (p := p1) (m := m) (g := g1) (l := l) (obj := a) (σ := σ) (c := c1) (headL B) Wfb.out).at0 U5.out).mono ?_
            rintro e v6 ⟨he, sq⟩
            subst he
            obtain ⟨_, _, _, y1⟩ := rring_ev sq
            obtain ⟨_, _, _, y2⟩ := rring_ev (other sq)
            have r6 : v6.cell? ⟨q1, 0, none⟩ = some (ptr x1) ∧ v6.cell? ⟨q2, 0, none⟩ = some (ptr x2) := ⟨y1, y2⟩
            have U6 := Lib.hid sq
            refine hK _ _ ⟨fun _ => r6, ?_⟩
            clear hK K sq y1 y2 U5 r5
            try simp only [Act.put, List.getElem_toArray, List.getElem_cons_succ, List.getElem_cons_zero, List.setIfInBounds_toArray, List.set_cons_zero, List.set_cons_succ]
            refine wpAnyU_all (rs := [30]) (by kernel_rfl) (by simp) (fun i hi => ?_)
            obtain rfl : i = 30 := by simpa using hi
            refine wpOpU_stepG rfl (by rfl) (fun K hK => ?_)
            go_simp
            refine ((rloc_pure 12 B 0).at U6.out).mono ?_
            rintro e v7 ⟨he, sq⟩
            subst he
            obtain ⟨_, _, _, y1⟩ := rring_ev sq
            obtain ⟨_, _, _, y2⟩ := rring_ev (other sq)
            have r7 : v7.cell? ⟨q1, 0, none⟩ = some (ptr x1) ∧ v7.cell? ⟨q2, 0, none⟩ = some (ptr x2) := ⟨y1, y2⟩
            have U7 := Lib.hid sq
            refine hK _ _ ⟨fun _ => r7, ?_⟩
            clear hK K sq y1 y2 U6 r6
            try simp only [Act.put, List.getElem_toArray, List.getElem_cons_succ, List.getElem_cons_zero, List.setIfInBounds_toArray, List.set_cons_zero, List.set_cons_succ]
            refine wpAnyU_all (rs := [31]) (by kernel_rfl) (by simp) (fun i hi => ?_)
            obtain rfl : i = 31 := by simpa using hi
            refine wpOpU_stepG rfl (by rfl) (fun K hK => ?_)
            go_simp
            refine (rringpeek3 (headL B) (by omega) U7.out).mono ?_
            rintro e v8 ⟨he, sq⟩
            rw [Bh.out] at he
            subst he
            obtain ⟨_, _, _, y1⟩ := rring_ev sq
            obtain ⟨_, _, _, y2⟩ := rring_ev (other sq)
            have r8 : v8.cell? ⟨q1, 0, none⟩ = some (ptr x1) ∧ v8.cell? ⟨q2, 0, none⟩ = some (ptr x2) := ⟨y1, y2⟩
            have U8 := Lib.hid sq
            refine hK _ _ ⟨fun _ => r8, ?_⟩
            clear hK K sq y1 y2 U7 r7
            try simp only [Act.put, List.getElem_toArray, List.getElem_cons_succ, List.getElem_cons_zero, List.setIfInBounds_toArray, List.set_cons_zero, List.set_cons_succ]
            refine wpAnyU_take (i := 32) (v := ?_) rfl (by kernel_rfl) (by kernel_rfl) (by kernel_rfl) (by kernel_rfl) (fun _ _ _ h => h) (Or.inl ⟨by rfl, ?_⟩) r8 ?_
            rotate_left 1
            · (intro w' hS; (try dsimp only at hS); (try simp only [List.getElem_toArray, List.getElem_cons_succ, List.getElem_cons_zero]); go_simp; (try with_reducible rfl))
            try simp only [Act.put, List.getElem_toArray, List.getElem_cons_succ, List.getElem_cons_zero, List.setIfInBounds_toArray, List.set_cons_zero, List.set_cons_succ]
            refine wpAnyU_take (i := 33) (v := ?_) rfl (by kernel_rfl) (by kernel_rfl) (by kernel_rfl) (by kernel_rfl) (fun _ _ _ h => h) (Or.inl ⟨by rfl, ?_⟩) r8 ?_
            rotate_left 1
            · (intro w' hS; (try dsimp only at hS); (try simp only [List.getElem_toArray, List.getElem_cons_succ, List.getElem_cons_zero]); go_simp; (try with_reducible rfl))
            try simp only [Act.put, List.getElem_toArray, List.getElem_cons_succ, List.getElem_cons_zero, List.setIfInBounds_toArray, List.set_cons_zero, List.set_cons_succ]
            refine wpAnyU_done (by kernel_rfl) ?_ _
            clear r8
            go_wp2
            go_roundw
            case rel => exact ⟨2, r1 + 1, r2 + 1, by omega, by go_num, by omega, by omega, U8.out⟩
            case measure => simp [intOf]
          · obtain ⟨oE, cE, hE, hq⟩ := rring_ev Sq.out
            obtain ⟨oF, cF, hF, hp⟩ := rring_ev (other Sq.out)
            have b1 := Tr.out.bound; have b2 := Tr.out.le1; have b3 := Tr.out.le2; have bs := Tr.out.sum
            have ws : IntKind.i64.wrap ((τ.log.length : Int) + (ρ.log.length : Int)) = (τ.log.length : Int) + (ρ.log.length : Int) := by rw [IntKind.wrap_i64]; omega
            have Sd := Lib.hid Sq.out.drew
            have hs4 : (World.drew _).cell? ⟨q1, 0, none⟩ = some (ptr x1) ∧ (World.drew _).cell? ⟨x1, 2, none⟩ = some (.slice oE τ.log.length cE) ∧ (World.drew _).cell? ⟨q2, 0, none⟩ = some (ptr x2) ∧ (World.drew _).cell? ⟨x2, 2, none⟩ = some (.slice oF ρ.log.length cF) := ⟨hq, hE, hp, hF⟩
            clear hq hE hp hF
            go_wp2_with fail
            refine wp_region_any (by kernel_rfl) ?_
            change wpAny _ _ _ _ _ _ _ (World.drew _)
            refine wpAny_of_U (S := fun w' => w'.cell? ⟨q1, 0, none⟩ = some (ptr x1) ∧ w'.cell? ⟨x1, 2, none⟩ = some (.slice oE τ.log.length cE) ∧ w'.cell? ⟨q2, 0, none⟩ = some (ptr x2) ∧ w'.cell? ⟨x2, 2, none⟩ = some (.slice oF ρ.log.length cF)) (U := [0, 1, 2, 3, 4, 5, 6, 7, 8, 9, 10, 11, 12, 13, 14, 15, 16, 17, 18, 19]) _ _ _ _ ?_
            refine wpAnyU_take (i := 0) (v := ?_) rfl (by kernel_rfl) (by kernel_rfl) (by kernel_rfl) (by kernel_rfl) (fun _ _ _ h => h) (Or.inl ⟨by rfl, ?_⟩) hs4 ?_
            rotate_left 1
            · (intro w' hS; (try dsimp only at hS); (try simp only [List.getElem_toArray, List.getElem_cons_succ, List.getElem_cons_zero]); go_simp; (try with_reducible rfl))
            try simp only [Act.put, List.getElem_toArray, List.getElem_cons_succ, List.getElem_cons_zero, List.setIfInBounds_toArray, List.set_cons_zero, List.set_cons_succ]
            refine wpAnyU_take (i := 2) (v := ?_) rfl (by kernel_rfl) (by kernel_rfl) (by kernel_rfl) (by kernel_rfl) (fun _ _ _ h => h) (Or.inl ⟨by rfl, ?_⟩) hs4 ?_
            rotate_left 1
            · (intro w' hS; (try dsimp only at hS); (try simp only [List.getElem_toArray, List.getElem_cons_succ, List.getElem_cons_zero]); go_simp; (try with_reducible rfl))
            try simp only [Act.put, List.getElem_toArray, List.getElem_cons_succ, List.getElem_cons_zero, List.setIfInBounds_toArray, List.set_cons_zero, List.set_cons_succ]
            refine wpAnyU_take (i := 3) (v := ?_) rfl (by kernel_rfl) (by kernel_rfl) (by kernel_rfl) (by kernel_rfl) (fun _ _ _ h => h) (Or.inl ⟨by rfl, ?_⟩) hs4 ?_
            rotate_left 1
            · (intro w' hS; (try dsimp only at hS); (try simp only [List.getElem_toArray, List.getElem_cons_succ, List.getElem_cons_zero]); go_simp; (try with_reducible rfl))
            try simp only [Act.put, List.getElem_toArray, List.getElem_cons_succ, List.getElem_cons_zero, List.setIfInBounds_toArray, List.set_cons_zero, List.set_cons_succ]
            refine wpAnyU_take (i := 4) (v := ?_) rfl (by kernel_rfl) (by kernel_rfl) (by kernel_rfl) (by kernel_rfl) (fun _ _ _ h => h) (Or.inl ⟨by rfl, ?_⟩) hs4 ?_
            rotate_left 1
            · (intro w' hS; (try dsimp only at hS); (try simp only [List.getElem_toArray, List.getElem_cons_succ, List.getElem_cons_zero]); go_simp; (try with_reducible rfl))
            try simp only [Act.put, List.getElem_toArray, List.getElem_cons_succ, List.getElem_cons_zero, List.setIfInBounds_toArray, List.set_cons_zero, List.set_cons_succ]
            refine wpAnyU_take (i := 5) (v := ?_) rfl (by kernel_rfl) (by kernel_rfl) (by kernel_rfl) (by kernel_rfl) (fun _ _ _ h => h) (Or.inl ⟨by rfl, ?_⟩) hs4 ?_
            rotate_left 1
            · (intro w' hS; (try dsimp only at hS); (try simp only [List.getElem_toArray, List.getElem_cons_succ, List.getElem_cons_zero]); go_simp; (try with_reducible rfl))
            try simp only [Act.put, List.getElem_toArray, List.getElem_cons_succ, List.getElem_cons_zero, List.setIfInBounds_toArray, List.set_cons_zero, List.set_cons_succ]
            refine wpAnyU_take (i := 6) (v := ?_) rfl (by kernel_rfl) (by kernel_rfl) (by kernel_rfl) (by kernel_rfl) (fun _ _ _ h => h) (Or.inl ⟨by rfl, ?_⟩) hs4 ?_
            rotate_left 1
            · (intro w' hS; (try dsimp only at hS); (try simp only [List.getElem_toArray, List.getElem_cons_succ, List.getElem_cons_zero]); go_simp; (try with_reducible rfl))
            try simp only [Act.put, List.getElem_toArray, List.getElem_cons_succ, List.getElem_cons_zero, List.setIfInBounds_toArray, List.set_cons_zero, List.set_cons_succ]
            refine wpAnyU_take (i := 7) (v := ?_) rfl (by kernel_rfl) (by kernel_rfl) (by kernel_rfl) (by kernel_rfl) (fun _ _ _ h => h) (Or.inl ⟨by rfl, ?_⟩) hs4 ?_
            rotate_left 1
            · (intro w' hS; (try dsimp only at hS); (try simp only [List.getElem_toArray, List.getElem_cons_succ, List.getElem_cons_zero]); go_simp; (try with_reducible rfl))
            try simp only [Act.put, List.getElem_toArray, List.getElem_cons_succ, List.getElem_cons_zero, List.setIfInBounds_toArray, List.set_cons_zero, List.set_cons_succ]
            refine wpAnyU_take (i := 8) (v := ?_) rfl (by kernel_rfl) (by kernel_rfl) (by kernel_rfl) (by kernel_rfl) (fun _ _ _ h => h) (Or.inl ⟨by rfl, ?_⟩) hs4 ?_
            rotate_left 1
            · (intro w' hS; (try dsimp only at hS); (try simp only [List.getElem_toArray, List.getElem_cons_succ, List.getElem_cons_zero]); go_simp; (try with_reducible rfl))
            try simp only [Act.put, List.getElem_toArray, List.getElem_cons_succ, List.getElem_cons_zero, List.setIfInBounds_toArray, List.set_cons_zero, List.set_cons_succ]
            refine wpAnyU_take (i := 9) (v := ?_) rfl (by kernel_rfl) (by kernel_rfl) (by kernel_rfl) (by kernel_rfl) (fun _ _ _ h => h) (Or.inl ⟨by rfl, ?_⟩) hs4 ?_
            rotate_left 1
            · (intro w' hS; (try dsimp only at hS); (try simp only [List.getElem_toArray, List.getElem_cons_succ, List.getElem_cons_zero]); go_simp; (try with_reducible rfl))
            try simp only [Act.put, List.getElem_toArray, List.getElem_cons_succ, List.getElem_cons_zero, List.setIfInBounds_toArray, List.set_cons_zero, List.set_cons_succ]
            refine wpAnyU_take (i := 10) (v := ?_) rfl (by kernel_rfl) (by kernel_rfl) (by kernel_rfl) (by kernel_rfl) (fun _ _ _ h => h) (Or.inl ⟨by rfl, ?_⟩) hs4 ?_
            rotate_left 1
            · (intro w' hS; (try dsimp only at hS); (try simp only [List.getElem_toArray, List.getElem_cons_succ, List.getElem_cons_zero]); go_simp; (try with_reducible rfl))
            try simp only [Act.put, List.getElem_toArray, List.getElem_cons_succ, List.getElem_cons_zero, List.setIfInBounds_toArray, List.set_cons_zero, List.set_cons_succ]
            refine wpAnyU_take (i := 11) (v := ?_) rfl (by kernel_rfl) (by kernel_rfl) (by kernel_rfl) (by kernel_rfl) (fun _ _ _ h => h) (Or.inl ⟨by rfl, ?_⟩) hs4 ?_
            rotate_left 1
            · (intro w' hS; (try dsimp only at hS); (try simp only [List.getElem_toArray, List.getElem_cons_succ, List.getElem_cons_zero]); go_simp; (try with_reducible rfl))
            try simp only [Act.put, List.getElem_toArray, List.getElem_cons_succ, List.getElem_cons_zero, List.setIfInBounds_toArray, List.set_cons_zero, List.set_cons_succ]
            refine wpAnyU_take (i := 12) (v := ?_) rfl (by kernel_rfl) (by kernel_rfl) (by kernel_rfl) (by kernel_rfl) (fun _ _ _ h => h) (Or.inl ⟨by rfl, ?_⟩) hs4 ?_
            rotate_left 1
            · (intro w' hS; (try dsimp only at hS); (try simp only [List.getElem_toArray, List.getElem_cons_succ, List.getElem_cons_zero]); go_simp; (try with_reducible rfl))
            try simp only [Act.put, List.getElem_toArray, List.getElem_cons_succ, List.getElem_cons_zero, List.setIfInBounds_toArray, List.set_cons_zero, List.set_cons_succ]
            refine wpAnyU_take (i := 13) (v := ?_) rfl (by kernel_rfl) (by kernel_rfl) (by kernel_rfl) (by kernel_rfl) (fun _ _ _ h => h) (Or.inl ⟨by rfl, ?_⟩) hs4 ?_
            rotate_left 1
            · (intro w' hS; (try dsimp only at hS); (try simp only [List.getElem_toArray, List.getElem_cons_succ, List.getElem_cons_zero]); go_simp; (try with_reducible rfl))
            try simp only [Act.put, List.getElem_toArray, List.getElem_cons_succ, List.getElem_cons_zero, List.setIfInBounds_toArray, List.set_cons_zero, List.set_cons_succ]
            refine wpAnyU_take (i := 14) (v := ?_) rfl (by kernel_rfl) (by kernel_rfl) (by kernel_rfl) (by kernel_rfl) (fun _ _ _ h => h) (Or.inl ⟨by rfl, ?_⟩) hs4 ?_
            rotate_left 1
            · (intro w' hS; (try dsimp only at hS); (try simp only [List.getElem_toArray, List.getElem_cons_succ, List.getElem_cons_zero]); go_simp; (try with_reducible rfl))
            try simp only [Act.put, List.getElem_toArray, List.getElem_cons_succ, List.getElem_cons_zero, List.setIfInBounds_toArray, List.set_cons_zero, List.set_cons_succ]
            refine wpAnyU_take (i := 15) (v := ?_) rfl (by kernel_rfl) (by kernel_rfl) (by kernel_rfl) (by kernel_rfl) (fun _ _ _ h => h) (Or.inl ⟨by rfl, ?_⟩) hs4 ?_
            rotate_left 1
            · (intro w' hS; (try dsimp only at hS); (try simp only [List.getElem_toArray, List.getElem_cons_succ, List.getElem_cons_zero]); go_simp; (try with_reducible rfl))
            try simp only [Act.put, List.getElem_toArray, List.getElem_cons_succ, List.getElem_cons_zero, List.setIfInBounds_toArray, List.set_cons_zero, List.set_cons_succ]
            refine wpAnyU_take (i := 16) (v := ?_) rfl (by kernel_rfl) (by kernel_rfl) (by kernel_rfl) (by kernel_rfl) (fun _ _ _ h => h) (Or.inl ⟨by rfl, ?_⟩) hs4 ?_
            rotate_left 1
            · (intro w' hS; (try dsimp only at hS); (try simp only [List.getElem_toArray, List.getElem_cons_succ, List.getElem_cons_zero]); go_simp; (try with_reducible rfl))
            try simp only [Act.put, List.getElem_toArray, List.getElem_cons_succ, List.getElem_cons_zero, List.setIfInBounds_toArray, List.set_cons_zero, List.set_cons_succ]
            refine wpAnyU_take (i := 17) (v := ?_) rfl (by kernel_rfl) (by kernel_rfl) (by kernel_rfl) (by kernel_rfl) (fun _ _ _ h => h) (Or.inl ⟨by rfl, ?_⟩) hs4 ?_
            rotate_left 1
            · (intro w' hS; (try dsimp only at hS); (try simp only [List.getElem_toArray, List.getElem_cons_succ, List.getElem_cons_zero]); go_simp; (try with_reducible rfl))
            try simp only [Act.put, List.getElem_toArray, List.getElem_cons_succ, List.getElem_cons_zero, List.setIfInBounds_toArray, List.set_cons_zero, List.set_cons_succ]
            refine wpAnyU_take (i := 18) (v := ?_) rfl (by kernel_rfl) (by kernel_rfl) (by kernel_rfl) (by kernel_rfl) (fun _ _ _ h => h) (Or.inl ⟨by rfl, ?_⟩) hs4 ?_
            rotate_left 1
            · (intro w' hS; (try dsimp only at hS); (try simp only [List.getElem_toArray, List.getElem_cons_succ, List.getElem_cons_zero]); go_simp; (try with_reducible rfl))
            try simp only [Act.put, List.getElem_toArray, List.getElem_cons_succ, List.getElem_cons_zero, List.setIfInBounds_toArray, List.set_cons_zero, List.set_cons_succ]
            refine wpAnyU_all (rs := [1]) (by kernel_rfl) (by simp) (fun i hi => ?_)
            obtain rfl : i = 1 := by simpa using hi
            refine wpOpU_stepG rfl (by rfl) (fun K hK => ?_)
            go_simp
            refine (len0 (Scope.open1 Sd.out) (by omega)).mono ?_
            rintro e wl ⟨he, rfl⟩
            rw [show ((σ.log.length : Nat) : Int) = (τ.log.length : Int) + (ρ.log.length : Int) by omega] at he
            subst he
            refine hK _ _ ⟨fun _ => hs4, ?_⟩
            clear hK K
            try simp only [Act.put, List.getElem_toArray, List.getElem_cons_succ, List.getElem_cons_zero, List.setIfInBounds_toArray, List.set_cons_zero, List.set_cons_succ]
            refine wpAnyU_take (i := 19) (v := ?_) rfl (by kernel_rfl) (by kernel_rfl) (by kernel_rfl) (by kernel_rfl) (fun _ _ _ h => h) (Or.inl ⟨by rfl, ?_⟩) hs4 ?_
            rotate_left 1
            · (intro w' hS; (try dsimp only at hS); (try simp only [List.getElem_toArray, List.getElem_cons_succ, List.getElem_cons_zero]); go_simp; (try with_reducible rfl))
            try simp only [Act.put, List.getElem_toArray, List.getElem_cons_succ, List.getElem_cons_zero, List.setIfInBounds_toArray, List.set_cons_zero, List.set_cons_succ]
            refine wpAnyU_rest _ _ _ _ (fun j hj => ?_) ?_
            · simp at hj; rcases hj with rfl | rfl | rfl | rfl | rfl | rfl | rfl | rfl | rfl | rfl | rfl | rfl | rfl | rfl | rfl | rfl | rfl | rfl | rfl | rfl <;> rfl
            refine wpAny_all (rs := [20]) (by kernel_rfl) (by simp) (fun i hi => ?_)
            obtain rfl : i = 20 := by simpa using hi
            refine wpOpU_stepG rfl (by rfl) (fun K hK => ?_)
            go_simp
            refine hK _ _ ?_
            clear hK K
            try simp only [Act.put, List.getElem_toArray, List.getElem_cons_succ, List.getElem_cons_zero, List.setIfInBounds_toArray, List.set_cons_zero, List.set_cons_succ]
            refine wpAny_done (by kernel_rfl) ?_ _
            clear hs4
            go_wp2
            go_ret
            exact ⟨rfl, Sd.out.below⟩
  · have HB := Lib.hid hb
    have hab' : (a == b) = false := by simpa using hab
    have Hab := Lib.hid hab
    go_enter Try.func7, Try.ntmps7
    go_wp2_with fail
    refine (new_scope S0.out).mono ?_
    rintro e w1 ⟨m, rfl, s1⟩
    have S1 := Lib.hid s1
    clear s1
    go_wp2_with fail
    refine (rnew_scope S1.out m a most).mono ?_
    rintro e w2 ⟨p1, g1, rfl, s2⟩
    have S2 := Lib.hid s2
    clear s2
    go_wp2_with fail
    refine (rnew_scope S2.out m b most).mono ?_
    rintro e w3 ⟨p2, g2, rfl, s3⟩
    have S3 := Lib.hid (ref_new s3)
    clear s3
    go_wp2_with fail
    refine (rrnew_scope S3.out _ a most).mono ?_
    rintro e w4 ⟨q1, h1, rfl, s4⟩
    have S4 := Lib.hid (ref_new s4)
    clear s4
    go_wp2_with fail
    refine (rrnew_scope S4.out _ b most).mono ?_
    rintro e w5 ⟨q2, h2, rfl, s5⟩
    obtain ⟨x1, hx1⟩ : ∃ x1, x1 = w3.heap.size := ⟨_, rfl⟩
    obtain ⟨x2, hx2⟩ : ∃ x2, x2 = w4.heap.size := ⟨_, rfl⟩
    rw [← hx1, ← hx2] at s5
    have lb := cl8_b most
    obtain ⟨l, hl⟩ : ∃ l, l = cl8 most := ⟨_, rfl⟩
    rw [← hl] at s5 lb
    obtain ⟨l1, l8⟩ := lb
    obtain ⟨cz, hcz⟩ : ∃ cz : Cs l, cz.1 = zeros l := ⟨⟨zeros l, zeros_length l⟩, rfl⟩
    rw [← hcz] at s5
    have S5 := Lib.hid (show Scope [] w w5 [ringA p1 m a g1 l MS.zero cz, rringA q1 x1 a h1 l 0 MS.zero cz, stars [rb p2 m b g2 l, gb g2 cz.1], rringA q2 x2 b h2 l 0 MS.zero cz] from arrange (by simpa using s5))
    clear s5 hl hcz S1 S2 S3 S4 hx1 hx2
    go_wp2_with fail
    refine (awake17_scope S5.out).mono ?_
    rintro e w6 ⟨rfl, s6⟩
    have S6 := Lib.hid s6
    clear s6 S5
    go_wp2_with fail
    go_loopw [16] (fun i wr => ∃ (k : Nat) (σ τ ρ : MS) (c1 c2 : Cs l), k ≤ 40 ∧ i = .int .i64 k ∧ Two a b σ τ ρ (2 * k) ∧ Scope [] w wr [ringA p1 m a g1 l (σ) c1, rringA q1 x1 a h1 l (2 * k) (τ) c1, stars [rb p2 m b g2 l, gb g2 c2.1], rringA q2 x2 b h2 l (2 * k) (ρ) c2]) (fun i _ => 40 - (intOf i).toNat)
    case atStart => exact ⟨0, MS.zero, MS.zero, MS.zero, cz, cz, by omega, rfl, ⟨fun _ _ => rfl, fun _ _ => rfl, rfl, by simp [MS.zero], by simp [MS.zero]⟩, S6.out⟩
    case round =>
      obtain ⟨k, σ, τ, ρ, c1, c2, hk, rfl, htw, hs⟩ := hrel
      have Sr := Lib.hid hs; have Tr := Lib.hid htw
      clear hs S6 htw
      by_cases h40 : k < 40
      · have i40 : (k : Int) < 40 := by omega
        have i0 : (0 : Int) ≤ (k : Int) := by omega
        by_cases e1 : k < n1
        · by_cases e2 : k < n2
          · obtain ⟨u, hu⟩ : ∃ u, L[k]? = some u := ⟨_, List.getElem?_eq_getElem (by rw [← Hn1.out]; exact e1)⟩
            obtain ⟨hw, gu, off, rfl, hc⟩ := El1.out k u hu
            have Hw := Lib.hid hw; have Hc := Lib.hid hc
            have j1 : (k : Int) < (n1 : Int) := by omega
            clear hu hw hc
            obtain ⟨u2, hu2⟩ : ∃ u, M[k]? = some u := ⟨_, List.getElem?_eq_getElem (by rw [← Hn2.out]; exact e2)⟩
            obtain ⟨hw2, gu2, off2, rfl, hc2⟩ := El2.out k u2 hu2
            have Hw2 := Lib.hid hw2; have Hc2 := Lib.hid hc2
            have j2 : (k : Int) < (n2 : Int) := by omega
            clear hu2 hw2 hc2
            obtain ⟨d0, d1, d2, d3, d4, d5, d6, d7, d8⟩ := Hc.out _ Sr.out.1
            go_wp2_with fail
            refine (step17_c Ha.out l1 l8 Sr.out Tr.out.one Hw.out (by omega) (by have := Tr.out.bound; omega) (by have := Tr.out.le1; omega)).mono ?_
            rintro e v1 ⟨rfl, σ1, τ1, d1', hr1, s1⟩
            have Q1 := Lib.hid s1; have T1 := Lib.hid (Tr.out.step1 Hab.out hr1)
            clear s1 hr1
            clear d0 d1 d2 d3 d4 d5 d6 d7 d8
            obtain ⟨f0, f1, f2, f3, f4, f5, f6, f7, f8⟩ := Hc2.out _ Q1.out.1
            go_wp2_with fail
            refine (step17_c HB.out l1 l8 (other Q1.out) T1.out.two Hw2.out (by omega) (by have := T1.out.bound; omega) (by have := T1.out.le2; omega)).mono ?_
            rintro e v2 ⟨rfl, σ2, ρ2, d2', hr2, s2⟩
            have Q2 := Lib.hid (other s2); have T2 := Lib.hid (T1.out.flip.step1 (fun e => Hab.out e.symm) hr2).flip
            clear s2 hr2
            clear f0 f1 f2 f3 f4 f5 f6 f7 f8
            go_wp2
            go_roundw
            case rel => exact ⟨k + 1, σ2, τ1, ρ2, d1', d2', by omega, by go_num, T2.out.up (by omega), up2 Q2.out (by omega) (by omega)⟩
            case measure => simp [intOf]; omega
          · obtain ⟨u, hu⟩ : ∃ u, L[k]? = some u := ⟨_, List.getElem?_eq_getElem (by rw [← Hn1.out]; exact e1)⟩
            obtain ⟨hw, gu, off, rfl, hc⟩ := El1.out k u hu
            have Hw := Lib.hid hw; have Hc := Lib.hid hc
            have j1 : (k : Int) < (n1 : Int) := by omega
            clear hu hw hc
            obtain ⟨d0, d1, d2, d3, d4, d5, d6, d7, d8⟩ := Hc.out _ Sr.out.1
            go_wp2_with fail
            refine (step17_c Ha.out l1 l8 Sr.out Tr.out.one Hw.out (by omega) (by have := Tr.out.bound; omega) (by have := Tr.out.le1; omega)).mono ?_
            rintro e v1 ⟨rfl, σ1, τ1, d1', hr1, s1⟩
            have Q1 := Lib.hid s1; have T1 := Lib.hid (Tr.out.step1 Hab.out hr1)
            clear s1 hr1
            clear d0 d1 d2 d3 d4 d5 d6 d7 d8
            go_wp2
            go_roundw
            case rel => exact ⟨k + 1, σ1, τ1, ρ, d1', c2, by omega, by go_num, T1.out.up (by omega), up2 Q1.out (by omega) (by omega)⟩
            case measure => simp [intOf]; omega
        · by_cases e2 : k < n2
          · obtain ⟨u2, hu2⟩ : ∃ u, M[k]? = some u := ⟨_, List.getElem?_eq_getElem (by rw [← Hn2.out]; exact e2)⟩
            obtain ⟨hw2, gu2, off2, rfl, hc2⟩ := El2.out k u2 hu2
            have Hw2 := Lib.hid hw2; have Hc2 := Lib.hid hc2
            have j2 : (k : Int) < (n2 : Int) := by omega
            clear hu2 hw2 hc2
            obtain ⟨f0, f1, f2, f3, f4, f5, f6, f7, f8⟩ := Hc2.out _ Sr.out.1
            go_wp2_with fail
            refine (step17_c HB.out l1 l8 (other Sr.out) Tr.out.two Hw2.out (by omega) (by have := Tr.out.bound; omega) (by have := Tr.out.le2; omega)).mono ?_
            rintro e v2 ⟨rfl, σ2, ρ2, d2', hr2, s2⟩
            have Q2 := Lib.hid (other s2); have T2 := Lib.hid (Tr.out.flip.step1 (fun e => Hab.out e.symm) hr2).flip
            clear s2 hr2
            clear f0 f1 f2 f3 f4 f5 f6 f7 f8
            go_wp2
            go_roundw
            case rel => exact ⟨k + 1, σ2, τ, ρ2, c1, d2', by omega, by go_num, T2.out.up (by omega), up2 Q2.out (by omega) (by omega)⟩
            case measure => simp [intOf]; omega
          · go_wp2
            go_roundw
            case rel => exact ⟨k + 1, σ, τ, ρ, c1, c2, by omega, by go_num, Tr.out.up (by omega), up2 Sr.out (by omega) (by omega)⟩
            case measure => simp [intOf]; omega
      · have hk100 : 2 * k ≤ 100 := by omega
        have t1 := Tr.out.one; have t2 := Tr.out.two
        have aw := t1 (wordL a) rfl; have ah := t1 (headL a) rfl; have bw := t2 (wordL b) rfl; have bh := t2 (headL b) rfl
        have Aw := Lib.hid aw; have Ah := Lib.hid ah; have Bw := Lib.hid bw; have Bh := Lib.hid bh
        clear aw ah bw bh t1 t2
        go_wp2_with fail
        go_loopw [17] (fun i wr => ∃ (k n1 n2 : Nat), k ≤ 2 ∧ i = .int .i64 k ∧ n1 ≤ 100 + k ∧ n2 ≤ 100 + k ∧ Scope [] w wr [ringA p1 m a g1 l (σ) c1, rringA q1 x1 a h1 l n1 (τ) c1, stars [rb p2 m b g2 l, gb g2 c2.1], rringA q2 x2 b h2 l n2 (ρ) c2]) (fun i _ => 2 - (intOf i).toNat)
        case atStart => exact ⟨0, 2 * k, 2 * k, by omega, rfl, by omega, by omega, Sr.out⟩
        case round =>
          obtain ⟨kk, r1, r2, hkk, rfl, hr1, hr2, hs⟩ := hrel
          have Sq := Lib.hid hs
          clear hs Sr
          have hk3 : kk = 0 ∨ kk = 1 ∨ kk = 2 := by omega
          rcases hk3 with rfl | rfl | rfl
          · obtain ⟨_, _, _, y1⟩ := rring_ev Sq.out
            obtain ⟨_, _, _, y2⟩ := rring_ev (other Sq.out)
            have U0 := Lib.hid Sq.out.drew
            have wfa := wordL_wf Ha.out; have wfb := wordL_wf HB.out
            have Wfa := Lib.hid wfa; have Wfb := Lib.hid wfb
            have n11 : IntKind.i64.wrap 11 = 11 := by decide
            have n12 : IntKind.i64.wrap 12 = 12 := by decide
            have n110 : IntKind.i64.wrap (11 + 0) = 11 := by decide
            have n111 : IntKind.i64.wrap (11 + 1) = 12 := by decide
            clear wfa wfb Sq
            have r0 : (World.drew _).cell? ⟨q1, 0, none⟩ = some (ptr x1) ∧ (World.drew _).cell? ⟨q2, 0, none⟩ = some (ptr x2) := ⟨y1, y2⟩
            clear y1 y2
            go_wp2_with fail
            refine wp_region_any (by kernel_rfl) ?_
            change wpAny _ _ _ _ _ _ _ (World.drew _)
            refine wpAny_of_U (S := fun w' => w'.cell? ⟨q1, 0, none⟩ = some (ptr x1) ∧ w'.cell? ⟨q2, 0, none⟩ = some (ptr x2)) (U := [0, 1, 2, 3, 4, 5, 6, 7, 8, 9, 10, 11, 12, 13, 14, 15, 16, 17, 18, 19, 20, 21, 22, 23, 24, 25, 26, 27, 28, 29, 30, 31, 32, 33]) _ _ _ _ ?_
            refine wpAnyU_take (i := 0) (v := ?_) rfl (by kernel_rfl) (by kernel_rfl) (by kernel_rfl) (by kernel_rfl) (fun _ _ _ h => h) (Or.inl ⟨by rfl, ?_⟩) r0 ?_
            rotate_left 1
            · (intro w' hS; (try dsimp only at hS); (try simp only [List.getElem_toArray, List.getElem_cons_succ, List.getElem_cons_zero]); go_simp; (try with_reducible rfl))
            try simp only [Act.put, List.getElem_toArray, List.getElem_cons_succ, List.getElem_cons_zero, List.setIfInBounds_toArray, List.set_cons_zero, List.set_cons_succ]
            refine wpAnyU_take (i := 1) (v := ?_) rfl (by kernel_rfl) (by kernel_rfl) (by kernel_rfl) (by kernel_rfl) (fun _ _ _ h => h) (Or.inl ⟨by rfl, ?_⟩) r0 ?_
            rotate_left 1
            · (intro w' hS; (try dsimp only at hS); (try simp only [List.getElem_toArray, List.getElem_cons_succ, List.getElem_cons_zero]); go_simp; (try with_reducible rfl))
            try simp only [Act.put, List.getElem_toArray, List.getElem_cons_succ, List.getElem_cons_zero, List.setIfInBounds_toArray, List.set_cons_zero, List.set_cons_succ]
            refine wpAnyU_take (i := 2) (v := ?_) rfl (by kernel_rfl) (by kernel_rfl) (by kernel_rfl) (by kernel_rfl) (fun _ _ _ h => h) (Or.inl ⟨by rfl, ?_⟩) r0 ?_
            rotate_left 1
            · (intro w' hS; (try dsimp only at hS); (try simp only [List.getElem_toArray, List.getElem_cons_succ, List.getElem_cons_zero]); go_simp; (try with_reducible rfl))
            try simp only [Act.put, List.getElem_toArray, List.getElem_cons_succ, List.getElem_cons_zero, List.setIfInBounds_toArray, List.set_cons_zero, List.set_cons_succ]
            refine wpAnyU_take (i := 3) (v := ?_) rfl (by kernel_rfl) (by kernel_rfl) (by kernel_rfl) (by kernel_rfl) (fun _ _ _ h => h) (Or.inl ⟨by rfl, ?_⟩) r0 ?_
            rotate_left 1
            · (intro w' hS; (try dsimp only at hS); (try simp only [List.getElem_toArray, List.getElem_cons_succ, List.getElem_cons_zero]); go_simp; (try with_reducible rfl))
            try simp only [Act.put, List.getElem_toArray, List.getElem_cons_succ, List.getElem_cons_zero, List.setIfInBounds_toArray, List.set_cons_zero, List.set_cons_succ]
            refine wpAnyU_take (i := 6) (v := ?_) rfl (by kernel_rfl) (by kernel_rfl) (by kernel_rfl) (by kernel_rfl) (fun _ _ _ h => h) (Or.inl ⟨by rfl, ?_⟩) r0 ?_
            rotate_left 1
            · (intro w' hS; (try dsimp only at hS); (try simp only [List.getElem_toArray, List.getElem_cons_succ, List.getElem_cons_zero]); go_simp; (try with_reducible rfl))
            try simp only [Act.put, List.getElem_toArray, List.getElem_cons_succ, List.getElem_cons_zero, List.setIfInBounds_toArray, List.set_cons_zero, List.set_cons_succ]
            refine wpAnyU_take (i := 7) (v := ?_) rfl (by kernel_rfl) (by kernel_rfl) (by kernel_rfl) (by kernel_rfl) (fun _ _ _ h => h) (Or.inl ⟨by rfl, ?_⟩) r0 ?_
            rotate_left 1
            · (intro w' hS; (try dsimp only at hS); (try simp only [List.getElem_toArray, List.getElem_cons_succ, List.getElem_cons_zero]); go_simp; (try with_reducible rfl))
            try simp only [Act.put, List.getElem_toArray, List.getElem_cons_succ, List.getElem_cons_zero, List.setIfInBounds_toArray, List.set_cons_zero, List.set_cons_succ]
            refine wpAnyU_take (i := 8) (v := ?_) rfl (by kernel_rfl) (by kernel_rfl) (by kernel_rfl) (by kernel_rfl) (fun _ _ _ h => h) (Or.inl ⟨by rfl, ?_⟩) r0 ?_
            rotate_left 1
            · (intro w' hS; (try dsimp only at hS); (try simp only [List.getElem_toArray, List.getElem_cons_succ, List.getElem_cons_zero]); go_simp; (try with_reducible rfl))
            try simp only [Act.put, List.getElem_toArray, List.getElem_cons_succ, List.getElem_cons_zero, List.setIfInBounds_toArray, List.set_cons_zero, List.set_cons_succ]
            refine wpAnyU_take (i := 9) (v := ?_) rfl (by kernel_rfl) (by kernel_rfl) (by kernel_rfl) (by kernel_rfl) (fun _ _ _ h => h) (Or.inl ⟨by rfl, ?_⟩) r0 ?_
            rotate_left 1
            · (intro w' hS; (try dsimp only at hS); (try simp only [List.getElem_toArray, List.getElem_cons_succ, List.getElem_cons_zero]); go_simp; (try with_reducible rfl))
            try simp only [Act.put, List.getElem_toArray, List.getElem_cons_succ, List.getElem_cons_zero, List.setIfInBounds_toArray, List.set_cons_zero, List.set_cons_succ]
            refine wpAnyU_take (i := 10) (v := ?_) rfl (by kernel_rfl) (by kernel_rfl) (by kernel_rfl) (by kernel_rfl) (fun _ _ _ h => h) (Or.inl ⟨by rfl, ?_⟩) r0 ?_
            rotate_left 1
            · (intro w' hS; (try dsimp only at hS); (try simp only [List.getElem_toArray, List.getElem_cons_succ, List.getElem_cons_zero]); go_simp; (try with_reducible rfl))
            try simp only [Act.put, List.getElem_toArray, List.getElem_cons_succ, List.getElem_cons_zero, List.setIfInBounds_toArray, List.set_cons_zero, List.set_cons_succ]
            refine wpAnyU_take (i := 11) (v := ?_) rfl (by kernel_rfl) (by kernel_rfl) (by kernel_rfl) (by kernel_rfl) (fun _ _ _ h => h) (Or.inl ⟨by rfl, ?_⟩) r0 ?_
            rotate_left 1
            · (intro w' hS; (try dsimp only at hS); (try simp only [List.getElem_toArray, List.getElem_cons_succ, List.getElem_cons_zero]); go_simp; (try with_reducible rfl))
            try simp only [Act.put, List.getElem_toArray, List.getElem_cons_succ, List.getElem_cons_zero, List.setIfInBounds_toArray, List.set_cons_zero, List.set_cons_succ]
            refine wpAnyU_take (i := 12) (v := ?_) rfl (by kernel_rfl) (by kernel_rfl) (by kernel_rfl) (by kernel_rfl) (fun _ _ _ h => h) (Or.inl ⟨by rfl, ?_⟩) r0 ?_
            rotate_left 1
            · (intro w' hS; (try dsimp only at hS); (try simp only [List.getElem_toArray, List.getElem_cons_succ, List.getElem_cons_zero]); go_simp; (try with_reducible rfl))
            try simp only [Act.put, List.getElem_toArray, List.getElem_cons_succ, List.getElem_cons_zero, List.setIfInBounds_toArray, List.set_cons_zero, List.set_cons_succ]
            refine wpAnyU_all (rs := [4]) (by kernel_rfl) (by simp) (fun i hi => ?_)
            obtain rfl : i = 4 := by simpa using hi
            refine wpOpU_stepG rfl (by rfl) (fun K hK => ?_)
            go_simp
            refine ((rloc_pure 11 a 0).at U0.out).mono ?_
            rintro e v1 ⟨he, sq⟩
            subst he
            obtain ⟨_, _, _, y1⟩ := rring_ev sq
            obtain ⟨_, _, _, y2⟩ := rring_ev (other sq)
            have r1 : v1.cell? ⟨q1, 0, none⟩ = some (ptr x1) ∧ v1.cell? ⟨q2, 0, none⟩ = some (ptr x2) := ⟨y1, y2⟩
            have U1 := Lib.hid sq
            refine hK _ _ ⟨fun _ => r1, ?_⟩
            clear hK K sq y1 y2 U0 r0
            try simp only [Act.put, List.getElem_toArray, List.getElem_cons_succ, List.getElem_cons_zero, List.setIfInBounds_toArray, List.set_cons_zero, List.set_cons_succ]
            refine wpAnyU_all (rs := [5]) (by kernel_rfl) (by simp) (fun i hi => ?_)
            obtain rfl : i = 5 := by simpa using hi
            refine wpOpU_stepG rfl (by rfl) (fun K hK => ?_)
            go_simp
            refine ((ringpeek (p := p1) (m := m) (g := g1) (l := l) (obj := a) (σ := σ) (c := c1) (wordL a) Wfa.out).at0 U1.out).mono ?_
            rintro e v2 ⟨he, sq⟩
            subst he
            obtain ⟨_, _, _, y1⟩ := rring_ev sq
            obtain ⟨_, _, _, y2⟩ := rring_ev (other sq)
            have r2 : v2.cell? ⟨q1, 0, none⟩ = some (ptr x1) ∧ v2.cell? ⟨q2, 0, none⟩ = some (ptr x2) := ⟨y1, y2⟩
            have U2 := Lib.hid sq
            refine hK _ _ ⟨fun _ => r2, ?_⟩
            clear hK K sq y1 y2 U1 r1
            try simp only [Act.put, List.getElem_toArray, List.getElem_cons_succ, List.getElem_cons_zero, List.setIfInBounds_toArray, List.set_cons_zero, List.set_cons_succ]
            refine wpAnyU_all (rs := [13]) (by kernel_rfl) (by simp) (fun i hi => ?_)
            obtain rfl : i = 13 := by simpa using hi
            refine wpOpU_stepG rfl (by rfl) (fun K hK => ?_)
            go_simp
            refine ((rloc_pure 11 a 0).at U2.out).mono ?_
            rintro e v3 ⟨he, sq⟩
            subst he
            obtain ⟨_, _, _, y1⟩ := rring_ev sq
            obtain ⟨_, _, _, y2⟩ := rring_ev (other sq)
            have r3 : v3.cell? ⟨q1, 0, none⟩ = some (ptr x1) ∧ v3.cell? ⟨q2, 0, none⟩ = some (ptr x2) := ⟨y1, y2⟩
            have U3 := Lib.hid sq
            refine hK _ _ ⟨fun _ => r3, ?_⟩
            clear hK K sq y1 y2 U2 r2
            try simp only [Act.put, List.getElem_toArray, List.getElem_cons_succ, List.getElem_cons_zero, List.setIfInBounds_toArray, List.set_cons_zero, List.set_cons_succ]
            refine wpAnyU_all (rs := [14]) (by kernel_rfl) (by simp) (fun i hi => ?_)
            obtain rfl : i = 14 := by simpa using hi
            refine wpOpU_stepG rfl (by rfl) (fun K hK => ?_)
            go_simp
            refine ((rringpeek (q := q1) (x := x1) (n := r1) (g := h1) (l := l) (obj := a) (τ := τ) (c := c1) (wordL a) (by omega)).at1 U3.out).mono ?_
            rintro e v4 ⟨he, sq⟩
            rw [Aw.out] at he
            subst he
            obtain ⟨_, _, _, y1⟩ := rring_ev sq
            obtain ⟨_, _, _, y2⟩ := rring_ev (other sq)
            have r4 : v4.cell? ⟨q1, 0, none⟩ = some (ptr x1) ∧ v4.cell? ⟨q2, 0, none⟩ = some (ptr x2) := ⟨y1, y2⟩
            have U4 := Lib.hid sq
            refine hK _ _ ⟨fun _ => r4, ?_⟩
            clear hK K sq y1 y2 U3 r3
            try simp only [Act.put, List.getElem_toArray, List.getElem_cons_succ, List.getElem_cons_zero, List.setIfInBounds_toArray, List.set_cons_zero, List.set_cons_succ]
            refine wpAnyU_take (i := 15) (v := ?_) rfl (by kernel_rfl) (by kernel_rfl) (by kernel_rfl) (by kernel_rfl) (fun _ _ _ h => h) (Or.inl ⟨by rfl, ?_⟩) r4 ?_
            rotate_left 1
            · (intro w' hS; (try dsimp only at hS); (try simp only [List.getElem_toArray, List.getElem_cons_succ, List.getElem_cons_zero]); go_simp; (try with_reducible rfl))
            try simp only [Act.put, List.getElem_toArray, List.getElem_cons_succ, List.getElem_cons_zero, List.setIfInBounds_toArray, List.set_cons_zero, List.set_cons_succ]
            refine wpAnyU_take (i := 16) (v := ?_) rfl (by kernel_rfl) (by kernel_rfl) (by kernel_rfl) (by kernel_rfl) (fun _ _ _ h => h) (Or.inl ⟨by rfl, ?_⟩) r4 ?_
            rotate_left 1
            · (intro w' hS; (try dsimp only at hS); (try simp only [List.getElem_toArray, List.getElem_cons_succ, List.getElem_cons_zero]); go_simp; (try with_reducible rfl))
            try simp only [Act.put, List.getElem_toArray, List.getElem_cons_succ, List.getElem_cons_zero, List.setIfInBounds_toArray, List.set_cons_zero, List.set_cons_succ]
            refine wpAnyU_take (i := 17) (v := ?_) rfl (by kernel_rfl) (by kernel_rfl) (by kernel_rfl) (by kernel_rfl) (fun _ _ _ h => h) (Or.inl ⟨by rfl, ?_⟩) r4 ?_
            rotate_left 1
            · (intro w' hS; (try dsimp only at hS); (try simp only [List.getElem_toArray, List.getElem_cons_succ, List.getElem_cons_zero]); go_simp; (try with_reducible rfl))
            try simp only [Act.put, List.getElem_toArray, List.getElem_cons_succ, List.getElem_cons_zero, List.setIfInBounds_toArray, List.set_cons_zero, List.set_cons_succ]
            refine wpAnyU_take (i := 18) (v := ?_) rfl (by kernel_rfl) (by kernel_rfl) (by kernel_rfl) (by kernel_rfl) (fun _ _ _ h => h) (Or.inl ⟨by rfl, ?_⟩) r4 ?_
            rotate_left 1
            · (intro w' hS; (try dsimp only at hS); (try simp only [List.getElem_toArray, List.getElem_cons_succ, List.getElem_cons_zero]); go_simp; (try with_reducible rfl))
            try simp only [Act.put, List.getElem_toArray, List.getElem_cons_succ, List.getElem_cons_zero, List.setIfInBounds_toArray, List.set_cons_zero, List.set_cons_succ]
            refine wpAnyU_take (i := 19) (v := ?_) rfl (by kernel_rfl) (by kernel_rfl) (by kernel_rfl) (by kernel_rfl) (fun _ _ _ h => h) (Or.inl ⟨by rfl, ?_⟩) r4 ?_
            rotate_left 1
            · (intro w' hS; (try dsimp only at hS); (try simp only [List.getElem_toArray, List.getElem_cons_succ, List.getElem_cons_zero]); go_simp; (try with_reducible rfl))
            try simp only [Act.put, List.getElem_toArray, List.getElem_cons_succ, List.getElem_cons_zero, List.setIfInBounds_toArray, List.set_cons_zero, List.set_cons_succ]
            refine wpAnyU_take (i := 20) (v := ?_) rfl (by kernel_rfl) (by kernel_rfl) (by kernel_rfl) (by kernel_rfl) (fun _ _ _ h => h) (Or.inl ⟨by rfl, ?_⟩) r4 ?_
            rotate_left 1
            · (intro w' hS; (try dsimp only at hS); (try simp only [List.getElem_toArray, List.getElem_cons_succ, List.getElem_cons_zero]); go_simp; (try with_reducible rfl))
            try simp only [Act.put, List.getElem_toArray, List.getElem_cons_succ, List.getElem_cons_zero, List.setIfInBounds_toArray, List.set_cons_zero, List.set_cons_succ]
            refine wpAnyU_take (i := 23) (v := ?_) rfl (by kernel_rfl) (by kernel_rfl) (by kernel_rfl) (by kernel_rfl) (fun _ _ _ h => h) (Or.inl ⟨by rfl, ?_⟩) r4 ?_
            rotate_left 1
            · (intro w' hS; (try dsimp only at hS); (try simp only [List.getElem_toArray, List.getElem_cons_succ, List.getElem_cons_zero]); go_simp; (try with_reducible rfl))
            try simp only [Act.put, List.getElem_toArray, List.getElem_cons_succ, List.getElem_cons_zero, List.setIfInBounds_toArray, List.set_cons_zero, List.set_cons_succ]
            refine wpAnyU_take (i := 24) (v := ?_) rfl (by kernel_rfl) (by kernel_rfl) (by kernel_rfl) (by kernel_rfl) (fun _ _ _ h => h) (Or.inl ⟨by rfl, ?_⟩) r4 ?_
            rotate_left 1
            · (intro w' hS; (try dsimp only at hS); (try simp only [List.getElem_toArray, List.getElem_cons_succ, List.getElem_cons_zero]); go_simp; (try with_reducible rfl))
            try simp only [Act.put, List.getElem_toArray, List.getElem_cons_succ, List.getElem_cons_zero, List.setIfInBounds_toArray, List.set_cons_zero, List.set_cons_succ]
            refine wpAnyU_take (i := 25) (v := ?_) rfl (by kernel_rfl) (by kernel_rfl) (by kernel_rfl) (by kernel_rfl) (fun _ _ _ h => h) (Or.inl ⟨by rfl, ?_⟩) r4 ?_
            rotate_left 1
            · (intro w' hS; (try dsimp only at hS); (try simp only [List.getElem_toArray, List.getElem_cons_succ, List.getElem_cons_zero]); go_simp; (try with_reducible rfl))
            try simp only [Act.put, List.getElem_toArray, List.getElem_cons_succ, List.getElem_cons_zero, List.setIfInBounds_toArray, List.set_cons_zero, List.set_cons_succ]
            refine wpAnyU_take (i := 26) (v := ?_) rfl (by kernel_rfl) (by kernel_rfl) (by kernel_rfl) (by kernel_rfl) (fun _ _ _ h => h) (Or.inl ⟨by rfl, ?_⟩) r4 ?_
            rotate_left 1
            · (intro w' hS; (try dsimp only at hS); (try simp only [List.getElem_toArray, List.getElem_cons_succ, List.getElem_cons_zero]); go_simp; (try with_reducible rfl))
            try simp only [Act.put, List.getElem_toArray, List.getElem_cons_succ, List.getElem_cons_zero, List.setIfInBounds_toArray, List.set_cons_zero, List.set_cons_succ]
            refine wpAnyU_take (i := 27) (v := ?_) rfl (by kernel_rfl) (by kernel_rfl) (by kernel_rfl) (by kernel_rfl) (fun _ _ _ h => h) (Or.inl ⟨by rfl, ?_⟩) r4 ?_
            rotate_left 1
            · (intro w' hS; (try dsimp only at hS); (try simp only [List.getElem_toArray, List.getElem_cons_succ, List.getElem_cons_zero]); go_simp; (try with_reducible rfl))
            try simp only [Act.put, List.getElem_toArray, List.getElem_cons_succ, List.getElem_cons_zero, List.setIfInBounds_toArray, List.set_cons_zero, List.set_cons_succ]
            refine wpAnyU_take (i := 28) (v := ?_) rfl (by kernel_rfl) (by kernel_rfl) (by kernel_rfl) (by kernel_rfl) (fun _ _ _ h => h) (Or.inl ⟨by rfl, ?_⟩) r4 ?_
            rotate_left 1
            · (intro w' hS; (try dsimp only at hS); (try simp only [List.getElem_toArray, List.getElem_cons_succ, List.getElem_cons_zero]); go_simp; (try with_reducible rfl))
            try simp only [Act.put, List.getElem_toArray, List.getElem_cons_succ, List.getElem_cons_zero, List.setIfInBounds_toArray, List.set_cons_zero, List.set_cons_succ]
            refine wpAnyU_take (i := 29) (v := ?_) rfl (by kernel_rfl) (by kernel_rfl) (by kernel_rfl) (by kernel_rfl) (fun _ _ _ h => h) (Or.inl ⟨by rfl, ?_⟩) r4 ?_
            rotate_left 1
            · (intro w' hS; (try dsimp only at hS); (try simp only [List.getElem_toArray, List.getElem_cons_succ, List.getElem_cons_zero]); go_simp; (try with_reducible rfl))
            try simp only [Act.put, List.getElem_toArray, List.getElem_cons_succ, List.getElem_cons_zero, List.setIfInBounds_toArray, List.set_cons_zero, List.set_cons_succ]
            refine wpAnyU_all (rs := [21]) (by kernel_rfl) (by simp) (fun i hi => ?_)
            obtain rfl : i = 21 := by simpa using hi
            refine wpOpU_stepG rfl (by rfl) (fun K hK => ?_)
            go_simp
            refine ((rloc_pure 11 b 0).at U4.out).mono ?_
            rintro e v5 ⟨he, sq⟩
            subst he
            obtain ⟨_, _, _, y1⟩ := rring_ev sq
            obtain ⟨_, _, _, y2⟩ := rring_ev (other sq)
            have r5 : v5.cell? ⟨q1, 0, none⟩ = some (ptr x1) ∧ v5.cell? ⟨q2, 0, none⟩ = some (ptr x2) := ⟨y1, y2⟩
            have U5 := Lib.hid sq
            refine hK _ _ ⟨fun _ => r5, ?_⟩
            clear hK K sq y1 y2 U4 r4
            try simp only [Act.put, List.getElem_toArray, List.getElem_cons_succ, List.getElem_cons_zero, List.setIfInBounds_toArray, List.set_cons_zero, List.set_cons_succ]
            refine wpAnyU_all (rs := [22]) (by kernel_rfl) (by simp) (fun i hi => ?_)
            obtain rfl : i = 22 := by simpa using hi
            refine wpOpU_stepG rfl (by rfl) (fun K hK => ?_)
            go_simp
            refine ((ringpeek (p := p1) (m := m) (g := g1) (l := l) (obj := a) (σ := σ) (c := c1) (wordL b) Wfb.out).at0 U5.out).mono ?_
            rintro e v6 ⟨he, sq⟩
            subst he
            obtain ⟨_, _, _, y1⟩ := rring_ev sq
            obtain ⟨_, _, _, y2⟩ := rring_ev (other sq)
            have r6 : v6.cell? ⟨q1, 0, none⟩ = some (ptr x1) ∧ v6.cell? ⟨q2, 0, none⟩ = some (ptr x2) := ⟨y1, y2⟩
            have U6 := Lib.hid sq
            refine hK _ _ ⟨fun _ => r6, ?_⟩
            clear hK K sq y1 y2 U5 r5
            try simp only [Act.put, List.getElem_toArray, List.getElem_cons_succ, List.getElem_cons_zero, List.setIfInBounds_toArray, List.set_cons_zero, List.set_cons_succ]
            refine wpAnyU_all (rs := [30]) (by kernel_rfl) (by simp) (fun i hi => ?_)
            obtain rfl : i = 30 := by simpa using hi
            refine wpOpU_stepG rfl (by rfl) (fun K hK => ?_)
            go_simp
            refine ((rloc_pure 11 b 0).at U6.out).mono ?_
            rintro e v7 ⟨he, sq⟩
            subst he
            obtain ⟨_, _, _, y1⟩ := rring_ev sq
            obtain ⟨_, _, _, y2⟩ := rring_ev (other sq)
            have r7 : v7.cell? ⟨q1, 0, none⟩ = some (ptr x1) ∧ v7.cell? ⟨q2, 0, none⟩ = some (ptr x2) := ⟨y1, y2⟩
            have U7 := Lib.hid sq
            refine hK _ _ ⟨fun _ => r7, ?_⟩
            clear hK K sq y1 y2 U6 r6
            try simp only [Act.put, List.getElem_toArray, List.getElem_cons_succ, List.getElem_cons_zero, List.setIfInBounds_toArray, List.set_cons_zero, List.set_cons_succ]
            refine wpAnyU_all (rs := [31]) (by kernel_rfl) (by simp) (fun i hi => ?_)
            obtain rfl : i = 31 := by simpa using hi
            refine wpOpU_stepG rfl (by rfl) (fun K hK => ?_)
            go_simp
            refine (rringpeek3 (wordL b) (by omega) U7.out).mono ?_
            rintro e v8 ⟨he, sq⟩
            rw [Bw.out] at he
            subst he
            obtain ⟨_, _, _, y1⟩ := rring_ev sq
            obtain ⟨_, _, _, y2⟩ := rring_ev (other sq)
            have r8 : v8.cell? ⟨q1, 0, none⟩ = some (ptr x1) ∧ v8.cell? ⟨q2, 0, none⟩ = some (ptr x2) := ⟨y1, y2⟩
            have U8 := Lib.hid sq
            refine hK _ _ ⟨fun _ => r8, ?_⟩
            clear hK K sq y1 y2 U7 r7
            try simp only [Act.put, List.getElem_toArray, List.getElem_cons_succ, List.getElem_cons_zero, List.setIfInBounds_toArray, List.set_cons_zero, List.set_cons_succ]
            refine wpAnyU_take (i := 32) (v := ?_) rfl (by kernel_rfl) (by kernel_rfl) (by kernel_rfl) (by kernel_rfl) (fun _ _ _ h => h) (Or.inl ⟨by rfl, ?_⟩) r8 ?_
            rotate_left 1
            · (intro w' hS; (try dsimp only at hS); (try simp only [List.getElem_toArray, List.getElem_cons_succ, List.getElem_cons_zero]); go_simp; (try with_reducible rfl))
            try simp only [Act.put, List.getElem_toArray, List.getElem_cons_succ, List.getElem_cons_zero, List.setIfInBounds_toArray, List.set_cons_zero, List.set_cons_succ]
            refine wpAnyU_take (i := 33) (v := ?_) rfl (by kernel_rfl) (by kernel_rfl) (by kernel_rfl) (by kernel_rfl) (fun _ _ _ h => h) (Or.inl ⟨by rfl, ?_⟩) r8 ?_
            rotate_left 1
            · (intro w' hS; (try dsimp only at hS); (try simp only [List.getElem_toArray, List.getElem_cons_succ, List.getElem_cons_zero]); go_simp; (try with_reducible rfl))
            try simp only [Act.put, List.getElem_toArray, List.getElem_cons_succ, List.getElem_cons_zero, List.setIfInBounds_toArray, List.set_cons_zero, List.set_cons_succ]
            refine wpAnyU_done (by kernel_rfl) ?_ _
            clear r8
            go_wp2
            go_roundw
            case rel => exact ⟨1, r1 + 1, r2 + 1, by omega, by go_num, by omega, by omega, U8.out⟩
            case measure => simp [intOf]
          · obtain ⟨_, _, _, y1⟩ := rring_ev Sq.out
            obtain ⟨_, _, _, y2⟩ := rring_ev (other Sq.out)
            have U0 := Lib.hid Sq.out.drew
            have wfa := headL_wf Ha.out; have wfb := headL_wf HB.out
            have Wfa := Lib.hid wfa; have Wfb := Lib.hid wfb
            have n11 : IntKind.i64.wrap 11 = 11 := by decide
            have n12 : IntKind.i64.wrap 12 = 12 := by decide
            have n110 : IntKind.i64.wrap (11 + 0) = 11 := by decide
            have n111 : IntKind.i64.wrap (11 + 1) = 12 := by decide
            clear wfa wfb Sq
            have r0 : (World.drew _).cell? ⟨q1, 0, none⟩ = some (ptr x1) ∧ (World.drew _).cell? ⟨q2, 0, none⟩ = some (ptr x2) := ⟨y1, y2⟩
            clear y1 y2
            go_wp2_with fail
            refine wp_region_any (by kernel_rfl) ?_
            change wpAny _ _ _ _ _ _ _ (World.drew _)
            refine wpAny_of_U (S := fun w' => w'.cell? ⟨q1, 0, none⟩ = some (ptr x1) ∧ w'.cell? ⟨q2, 0, none⟩ = some (ptr x2)) (U := [0, 1, 2, 3, 4, 5, 6, 7, 8, 9, 10, 11, 12, 13, 14, 15, 16, 17, 18, 19, 20, 21, 22, 23, 24, 25, 26, 27, 28, 29, 30, 31, 32, 33]) _ _ _ _ ?_
            refine wpAnyU_take (i := 0) (v := ?_) rfl (by kernel_rfl) (by kernel_rfl) (by kernel_rfl) (by kernel_rfl) (fun _ _ _ h => h) (Or.inl ⟨by rfl, ?_⟩) r0 ?_
            rotate_left 1
            · (intro w' hS; (try dsimp only at hS); (try simp only [List.getElem_toArray, List.getElem_cons_succ, List.getElem_cons_zero]); go_simp; (try with_reducible rfl))
            try simp only [Act.put, List.getElem_toArray, List.getElem_cons_succ, List.getElem_cons_zero, List.setIfInBounds_toArray, List.set_cons_zero, List.set_cons_succ]
            refine wpAnyU_take (i := 1) (v := ?_) rfl (by kernel_rfl) (by kernel_rfl) (by kernel_rfl) (by kernel_rfl) (fun _ _ _ h => h) (Or.inl ⟨by rfl, ?_⟩) r0 ?_
            rotate_left 1
            · (intro w' hS; (try dsimp only at hS); (try simp only [List.getElem_toArray, List.getElem_cons_succ, List.getElem_cons_zero]); go_simp; (try with_reducible rfl))
            try simp only [Act.put, List.getElem_toArray, List.getElem_cons_succ, List.getElem_cons_zero, List.setIfInBounds_toArray, List.set_cons_zero, List.set_cons_succ]
            refine wpAnyU_take (i := 2) (v := ?_) rfl (by kernel_rfl) (by kernel_rfl) (by kernel_rfl) (by kernel_rfl) (fun _ _ _ h => h) (Or.inl ⟨by rfl, ?_⟩) r0 ?_
            rotate_left 1
            · (intro w' hS; (try dsimp only at hS); (try simp only [List.getElem_toArray, List.getElem_cons_succ, List.getElem_cons_zero]); go_simp; (try with_reducible rfl))
            try simp only [Act.put, List.getElem_toArray, List.getElem_cons_succ, List.getElem_cons_zero, List.setIfInBounds_toArray, List.set_cons_zero, List.set_cons_succ]
            refine wpAnyU_take (i := 3) (v := ?_) rfl (by kernel_rfl) (by kernel_rfl) (by kernel_rfl) (by kernel_rfl) (fun _ _ _ h => h) (Or.inl ⟨by rfl, ?_⟩) r0 ?_
            rotate_left 1
            · (intro w' hS; (try dsimp only at hS); (try simp only [List.getElem_toArray, List.getElem_cons_succ, List.getElem_cons_zero]); go_simp; (try with_reducible rfl))
            try simp only [Act.put, List.getElem_toArray, List.getElem_cons_succ, List.getElem_cons_zero, List.setIfInBounds_toArray, List.set_cons_zero, List.set_cons_succ]
            refine wpAnyU_take (i := 6) (v := ?_) rfl (by kernel_rfl) (by kernel_rfl) (by kernel_rfl) (by kernel_rfl) (fun _ _ _ h => h) (Or.inl ⟨by rfl, ?_⟩) r0 ?_
            rotate_left 1
            · (intro w' hS; (try dsimp only at hS); (try simp only [List.getElem_toArray, List.getElem_cons_succ, List.getElem_cons_zero]); go_simp; (try with_reducible rfl))
            try simp only [Act.put, List.getElem_toArray, List.getElem_cons_succ, List.getElem_cons_zero, List.setIfInBounds_toArray, List.set_cons_zero, List.set_cons_succ]
            refine wpAnyU_take (i := 7) (v := ?_) rfl (by kernel_rfl) (by kernel_rfl) (by kernel_rfl) (by kernel_rfl) (fun _ _ _ h => h) (Or.inl ⟨by rfl, ?_⟩) r0 ?_
            rotate_left 1
            · (intro w' hS; (try dsimp only at hS); (try simp only [List.getElem_toArray, List.getElem_cons_succ, List.getElem_cons_zero]); go_simp; (try with_reducible rfl))
            try simp only [Act.put, List.getElem_toArray, List.getElem_cons_succ, List.getElem_cons_zero, List.setIfInBounds_toArray, List.set_cons_zero, List.set_cons_succ]
            refine wpAnyU_take (i := 8) (v := ?_) rfl (by kernel_rfl) (by kernel_rfl) (by kernel_rfl) (by kernel_rfl) (fun _ _ _ h => h) (Or.inl ⟨by rfl, ?_⟩) r0 ?_
            rotate_left 1
            · (intro w' hS; (try dsimp only at hS); (try simp only [List.getElem_toArray, List.getElem_cons_succ, List.getElem_cons_zero]); go_simp; (try with_reducible rfl))
            try simp only [Act.put, List.getElem_toArray, List.getElem_cons_succ, List.getElem_cons_zero, List.setIfInBounds_toArray, List.set_cons_zero, List.set_cons_succ]
            refine wpAnyU_take (i := 9) (v := ?_) rfl (by kernel_rfl) (by kernel_rfl) (by kernel_rfl) (by kernel_rfl) (fun _ _ _ h => h) (Or.inl ⟨by rfl, ?_⟩) r0 ?_
            rotate_left 1
            · (intro w' hS; (try dsimp only at hS); (try simp only [List.getElem_toArray, List.getElem_cons_succ, List.getElem_cons_zero]); go_simp; (try with_reducible rfl))
            try simp only [Act.put, List.getElem_toArray, List.getElem_cons_succ, List.getElem_cons_zero, List.setIfInBounds_toArray, List.set_cons_zero, List.set_cons_succ]
            refine wpAnyU_take (i := 10) (v := ?_) rfl (by kernel_rfl) (by kernel_rfl) (by kernel_rfl) (by kernel_rfl) (fun _ _ _ h => h) (Or.inl ⟨by rfl, ?_⟩) r0 ?_
            rotate_left 1
            · (intro w' hS; (try dsimp only at hS); (try simp only [List.getElem_toArray, List.getElem_cons_succ, List.getElem_cons_zero]); go_simp; (try with_reducible rfl))
            try simp only [Act.put, List.getElem_toArray, List.getElem_cons_succ, List.getElem_cons_zero, List.setIfInBounds_toArray, List.set_cons_zero, List.set_cons_succ]
            refine wpAnyU_take (i := 11) (v := ?_) rfl (by kernel_rfl) (by kernel_rfl) (by kernel_rfl) (by kernel_rfl) (fun _ _ _ h => h) (Or.inl ⟨by rfl, ?_⟩) r0 ?_
            rotate_left 1
            · (intro w' hS; (try dsimp only at hS); (try simp only [List.getElem_toArray, List.getElem_cons_succ, List.getElem_cons_zero]); go_simp; (try with_reducible rfl))
            try simp only [Act.put, List.getElem_toArray, List.getElem_cons_succ, List.getElem_cons_zero, List.setIfInBounds_toArray, List.set_cons_zero, List.set_cons_succ]
            refine wpAnyU_take (i := 12) (v := ?_) rfl (by kernel_rfl) (by kernel_rfl) (by kernel_rfl) (by kernel_rfl) (fun _ _ _ h => h) (Or.inl ⟨by rfl, ?_⟩) r0 ?_
            rotate_left 1
            · (intro w' hS; (try dsimp only at hS); (try simp only [List.getElem_toArray, List.getElem_cons_succ, List.getElem_cons_zero]); go_simp; (try with_reducible rfl))
            try simp only [Act.put, List.getElem_toArray, List.getElem_cons_succ, List.getElem_cons_zero, List.setIfInBounds_toArray, List.set_cons_zero, List.set_cons_succ]
            refine wpAnyU_all (rs := [4]) (by kernel_rfl) (by simp) (fun i hi => ?_)
            obtain rfl : i = 4 := by simpa using hi
            refine wpOpU_stepG rfl (by rfl) (fun K hK => ?_)
            go_simp
            refine ((rloc_pure 12 a 0).at U0.out).mono ?_
            rintro e v1 ⟨he, sq⟩
            subst he
            obtain ⟨_, _, _, y1⟩ := rring_ev sq
            obtain ⟨_, _, _, y2⟩ := rring_ev (other sq)
            have r1 : v1.cell? ⟨q1, 0, none⟩ = some (ptr x1) ∧ v1.cell? ⟨q2, 0, none⟩ = some (ptr x2) := ⟨y1, y2⟩
            have U1 := Lib.hid sq
            refine hK _ _ ⟨fun _ => r1, ?_⟩
            clear hK K sq y1 y2 U0 r0
            try simp only [Act.put, List.getElem_toArray, List.getElem_cons_succ, List.getElem_cons_zero, List.setIfInBounds_toArray, List.set_cons_zero, List.set_cons_succ]
            refine wpAnyU_all (rs := [5]) (by kernel_rfl) (by simp) (fun i hi => ?_)
            obtain rfl : i = 5 := by simpa using hi
            refine wpOpU_stepG rfl (by rfl) (fun K hK => ?_)
            go_simp
            refine ((ringpeek (p := p1) (m := m) (g := g1) (l := l) (obj := a) (σ := σ) (c := c1) (headL a) Wfa.out).at0 U1.out).mono ?_
            rintro e v2 ⟨he, sq⟩
            subst he
            obtain ⟨_, _, _, y1⟩ := rring_ev sq
            obtain ⟨_, _, _, y2⟩ := rring_ev (other sq)
            have r2 : v2.cell? ⟨q1, 0, none⟩ = some (ptr x1) ∧ v2.cell? ⟨q2, 0, none⟩ = some (ptr x2) := ⟨y1, y2⟩
            have U2 := Lib.hid sq
            refine hK _ _ ⟨fun _ => r2, ?_⟩
            clear hK K sq y1 y2 U1 r1
            try simp only [Act.put, List.getElem_toArray, List.getElem_cons_succ, List.getElem_cons_zero, List.setIfInBounds_toArray, List.set_cons_zero, List.set_cons_succ]
            refine wpAnyU_all (rs := [13]) (by kernel_rfl) (by simp) (fun i hi => ?_)
            obtain rfl : i = 13 := by simpa using hi
            refine wpOpU_stepG rfl (by rfl) (fun K hK => ?_)
            go_simp
            refine ((rloc_pure 12 a 0).at U2.out).mono ?_
            rintro e v3 ⟨he, sq⟩
            subst he
            obtain ⟨_, _, _, y1⟩ := rring_ev sq
            obtain ⟨_, _, _, y2⟩ := rring_ev (other sq)
            have r3 : v3.cell? ⟨q1, 0, none⟩ = some (ptr x1) ∧ v3.cell? ⟨q2, 0, none⟩ = some (ptr x2) := ⟨y1, y2⟩
            have U3 := Lib.hid sq
            refine hK _ _ ⟨fun _ => r3, ?_⟩
            clear hK K sq y1 y2 U2 r2
            try simp only [Act.put, List.getElem_toArray, List.getElem_cons_succ, List.getElem_cons_zero, List.setIfInBounds_toArray, List.set_cons_zero, List.set_cons_succ]
            refine wpAnyU_all (rs := [14]) (by kernel_rfl) (by simp) (fun i hi => ?_)
            obtain rfl : i = 14 := by simpa using hi
            refine wpOpU_stepG rfl (by rfl) (fun K hK => ?_)
            go_simp
            refine ((rringpeek (q := q1) (x := x1) (n := r1) (g := h1) (l := l) (obj := a) (τ := τ) (c := c1) (headL a) (by omega)).at1 U3.out).mono ?_
            rintro e v4 ⟨he, sq⟩
            rw [Ah.out] at he
            subst he
            obtain ⟨_, _, _, y1⟩ := rring_ev sq
            obtain ⟨_, _, _, y2⟩ := rring_ev (other sq)
            have r4 : v4.cell? ⟨q1, 0, none⟩ = some (ptr x1) ∧ v4.cell? ⟨q2, 0, none⟩ = some (ptr x2) := ⟨y1, y2⟩
            have U4 := Lib.hid sq
            refine hK _ _ ⟨fun _ => r4, ?_⟩
            clear hK K sq y1 y2 U3 r3
            try simp only [Act.put, List.getElem_toArray, List.getElem_cons_succ, List.getElem_cons_zero, List.setIfInBounds_toArray, List.set_cons_zero, List.set_cons_succ]
            refine wpAnyU_take (i := 15) (v := ?_) rfl (by kernel_rfl) (by kernel_rfl) (by kernel_rfl) (by kernel_rfl) (fun _ _ _ h => h) (Or.inl ⟨by rfl, ?_⟩) r4 ?_
            rotate_left 1
            · (intro w' hS; (try dsimp only at hS); (try simp only [List.getElem_toArray, List.getElem_cons_succ, List.getElem_cons_zero]); go_simp; (try with_reducible rfl))
            try simp only [Act.put, List.getElem_toArray, List.getElem_cons_succ, List.getElem_cons_zero, List.setIfInBounds_toArray, List.set_cons_zero, List.set_cons_succ]
            refine wpAnyU_take (i := 16) (v := ?_) rfl (by kernel_rfl) (by kernel_rfl) (by kernel_rfl) (by kernel_rfl) (fun _ _ _ h => h) (Or.inl ⟨by rfl, ?_⟩) r4 ?_
            rotate_left 1
            · (intro w' hS; (try dsimp only at hS); (try simp only [List.getElem_toArray, List.getElem_cons_succ, List.getElem_cons_zero]); go_simp; (try with_reducible rfl))
            try simp only [Act.put, List.getElem_toArray, List.getElem_cons_succ, List.getElem_cons_zero, List.setIfInBounds_toArray, List.set_cons_zero, List.set_cons_succ]
            refine wpAnyU_take (i := 17) (v := ?_) rfl (by kernel_rfl) (by kernel_rfl) (by kernel_rfl) (by kernel_rfl) (fun _ _ _ h => h) (Or.inl ⟨by rfl, ?_⟩) r4 ?_
            rotate_left 1
            · (intro w' hS; (try dsimp only at hS); (try simp only [List.getElem_toArray, List.getElem_cons_succ, List.getElem_cons_zero]); go_simp; (try with_reducible rfl))
            try simp only [Act.put, List.getElem_toArray, List.getElem_cons_succ, List.getElem_cons_zero, List.setIfInBounds_toArray, List.set_cons_zero, List.set_cons_succ]
            refine wpAnyU_take (i := 18) (v := ?_) rfl (by kernel_rfl) (by kernel_rfl) (by kernel_rfl) (by kernel_rfl) (fun _ _ _ h => h) (Or.inl ⟨by rfl, ?_⟩) r4 ?_
            rotate_left 1
            · (intro w' hS; (try dsimp only at hS); (try simp only [List.getElem_toArray, List.getElem_cons_succ, List.getElem_cons_zero]); go_simp; (try with_reducible rfl))
            try simp only [Act.put, List.getElem_toArray, List.getElem_cons_succ, List.getElem_cons_zero, List.setIfInBounds_toArray, List.set_cons_zero, List.set_cons_succ]
            refine wpAnyU_take (i := 19) (v := ?_) rfl (by kernel_rfl) (by kernel_rfl) (by kernel_rfl) (by kernel_rfl) (fun _ _ _ h => h) (Or.inl ⟨by rfl, ?_⟩) r4 ?_
            rotate_left 1
            · (intro w' hS; (try dsimp only at hS); (try simp only [List.getElem_toArray, List.getElem_cons_succ, List.getElem_cons_zero]); go_simp; (try with_reducible rfl))
            try simp only [Act.put, List.getElem_toArray, List.getElem_cons_succ, List.getElem_cons_zero, List.setIfInBounds_toArray, List.set_cons_zero, List.set_cons_succ]
            refine wpAnyU_take (i := 20) (v := ?_) rfl (by kernel_rfl) (by kernel_rfl) (by kernel_rfl) (by kernel_rfl) (fun _ _ _ h => h) (Or.inl ⟨by rfl, ?_⟩) r4 ?_
            rotate_left 1
            · (intro w' hS; (try dsimp only at hS); (try simp only [List.getElem_toArray, List.getElem_cons_succ, List.getElem_cons_zero]); go_simp; (try with_reducible rfl))
            try simp only [Act.put, List.getElem_toArray, List.getElem_cons_succ, List.getElem_cons_zero, List.setIfInBounds_toArray, List.set_cons_zero, List.set_cons_succ]
            refine wpAnyU_take (i := 23) (v := ?_) rfl (by kernel_rfl) (by kernel_rfl) (by kernel_rfl) (by kernel_rfl) (fun _ _ _ h => h) (Or.inl ⟨by rfl, ?_⟩) r4 ?_
            rotate_left 1
            · (intro w' hS; (try dsimp only at hS); (try simp only [List.getElem_toArray, List.getElem_cons_succ, List.getElem_cons_zero]); go_simp; (try with_reducible rfl))
            try simp only [Act.put, List.getElem_toArray, List.getElem_cons_succ, List.getElem_cons_zero, List.setIfInBounds_toArray, List.set_cons_zero, List.set_cons_succ]
            refine wpAnyU_take (i := 24) (v := ?_) rfl (by kernel_rfl) (by kernel_rfl) (by kernel_rfl) (by kernel_rfl) (fun _ _ _ h => h) (Or.inl ⟨by rfl, ?_⟩) r4 ?_
            rotate_left 1
            · (intro w' hS; (try dsimp only at hS); (try simp only [List.getElem_toArray, List.getElem_cons_succ, List.getElem_cons_zero]); go_simp; (try with_reducible rfl))
            try simp only [Act.put, List.getElem_toArray, List.getElem_cons_succ, List.getElem_cons_zero, List.setIfInBounds_toArray, List.set_cons_zero, List.set_cons_succ]
            refine wpAnyU_take (i := 25) (v := ?_) rfl (by kernel_rfl) (by kernel_rfl) (by kernel_rfl) (by kernel_rfl) (fun _ _ _ h => h) (Or.inl ⟨by rfl, ?_⟩) r4 ?_
            rotate_left 1
            · (intro w' hS; (try dsimp only at hS); (try simp only [List.getElem_toArray, List.getElem_cons_succ, List.getElem_cons_zero]); go_simp; (try with_reducible rfl))
            try simp only [Act.put, List.getElem_toArray, List.getElem_cons_succ, List.getElem_cons_zero, List.setIfInBounds_toArray, List.set_cons_zero, List.set_cons_succ]
            refine wpAnyU_take (i := 26) (v := ?_) rfl (by kernel_rfl) (by kernel_rfl) (by kernel_rfl) (by kernel_rfl) (fun _ _ _ h => h) (Or.inl ⟨by rfl, ?_⟩) r4 ?_
            rotate_left 1
            · (intro w' hS; (try dsimp only at hS); (try simp only [List.getElem_toArray, List.getElem_cons_succ, List.getElem_cons_zero]); go_simp; (try with_reducible rfl))
            try simp only [Act.put, List.getElem_toArray, List.getElem_cons_succ, List.getElem_cons_zero, List.setIfInBounds_toArray, List.set_cons_zero, List.set_cons_succ]
            refine wpAnyU_take (i := 27) (v := ?_) rfl (by kernel_rfl) (by kernel_rfl) (by kernel_rfl) (by kernel_rfl) (fun _ _ _ h => h) (Or.inl ⟨by rfl, ?_⟩) r4 ?_
            rotate_left 1
            · (intro w' hS; (try dsimp only at hS); (try simp only [List.getElem_toArray, List.getElem_cons_succ, List.getElem_cons_zero]); go_simp; (try with_reducible rfl))
            try simp only [Act.put, List.getElem_toArray, List.getElem_cons_succ, List.getElem_cons_zero, List.setIfInBounds_toArray, List.set_cons_zero, List.set_cons_succ]
            refine wpAnyU_take (i := 28) (v := ?_) rfl (by kernel_rfl) (by kernel_rfl) (by kernel_rfl) (by kernel_rfl) (fun _ _ _ h => h) (Or.inl ⟨by rfl, ?_⟩) r4 ?_
            rotate_left 1
            · (intro w' hS; (try dsimp only at hS); (try simp only [List.getElem_toArray, List.getElem_cons_succ, List.getElem_cons_zero]); go_simp; (try with_reducible rfl))
            try simp only [Act.put, List.getElem_toArray, List.getElem_cons_succ, List.getElem_cons_zero, List.setIfInBounds_toArray, List.set_cons_zero, List.set_cons_succ]
            refine wpAnyU_take (i := 29) (v := ?_) rfl (by kernel_rfl) (by kernel_rfl) (by kernel_rfl) (by kernel_rfl) (fun _ _ _ h => h) (Or.inl ⟨by rfl, ?_⟩) r4 ?_
            rotate_left 1
            · (intro w' hS; (try dsimp only at hS); (try simp only [List.getElem_toArray, List.getElem_cons_succ, List.getElem_cons_zero]); go_simp; (try with_reducible rfl))
            try simp only [Act.put, List.getElem_toArray, List.getElem_cons_succ, List.getElem_cons_zero, List.setIfInBounds_toArray, List.set_cons_zero, List.set_cons_succ]
            refine wpAnyU_all (rs := [21]) (by kernel_rfl) (by simp) (fun i hi => ?_)
            obtain rfl : i = 21 := by simpa using hi
            refine wpOpU_stepG rfl (by rfl) (fun K hK => ?_)
            go_simp
            refine ((rloc_pure 12 b 0).at U4.out).mono ?_
            rintro e v5 ⟨he, sq⟩
            subst he
            obtain ⟨_, _, _, y1⟩ := rring_ev sq
            obtain ⟨_, _, _, y2⟩ := rring_ev (other sq)
            have r5 : v5.cell? ⟨q1, 0, none⟩ = some (ptr x1) ∧ v5.cell? ⟨q2, 0, none⟩ = some (ptr x2) := ⟨y1, y2⟩
            have U5 := Lib.hid sq
            refine hK _ _ ⟨fun _ => r5, ?_⟩
            clear hK K sq y1 y2 U4 r4
            try simp only [Act.put, List.getElem_toArray, List.getElem_cons_succ, List.getElem_cons_zero, List.setIfInBounds_toArray, List.set_cons_zero, List.set_cons_succ]
            refine wpAnyU_all (rs := [22]) (by kernel_rfl) (by simp) (fun i hi => ?_)
            obtain rfl : i = 22 := by simpa using hi
            refine wpOpU_stepG rfl (by rfl) (fun K hK => ?_)
            go_simp
            refine ((ringpeek (p := p1) (m := m) (g := g1) (l := l) (obj := a) (σ := σ) (c := c1) (headL b) Wfb.out).at0 U5.out).mono ?_
            rintro e v6 ⟨he, sq⟩
            subst he
            obtain ⟨_, _, _, y1⟩ := rring_ev sq
            obtain ⟨_, _, _, y2⟩ := rring_ev (other sq)
            have r6 : v6.cell? ⟨q1, 0, none⟩ = some (ptr x1) ∧ v6.cell? ⟨q2, 0, none⟩ = some (ptr x2) := ⟨y1, y2⟩
            have U6 := Lib.hid sq
            refine hK _ _ ⟨fun _ => r6, ?_⟩
            clear hK K sq y1 y2 U5 r5
            try simp only [Act.put, List.getElem_toArray, List.getElem_cons_succ, List.getElem_cons_zero, List.setIfInBounds_toArray, List.set_cons_zero, List.set_cons_succ]
            refine wpAnyU_all (rs := [30]) (by kernel_rfl) (by simp) (fun i hi => ?_)
            obtain rfl : i = 30 := by simpa using hi
            refine wpOpU_stepG rfl (by rfl) (fun K hK => ?_)
            go_simp
            refine ((rloc_pure 12 b 0).at U6.out).mono ?_
            rintro e v7 ⟨he, sq⟩
            subst he
            obtain ⟨_, _, _, y1⟩ := rring_ev sq
            obtain ⟨_, _, _, y2⟩ := rring_ev (other sq)
            have r7 : v7.cell? ⟨q1, 0, none⟩ = some (ptr x1) ∧ v7.cell? ⟨q2, 0, none⟩ = some (ptr x2) := ⟨y1, y2⟩
            have U7 := Lib.hid sq
            refine hK _ _ ⟨fun _ => r7, ?_⟩
            clear hK K sq y1 y2 U6 r6
            try simp only [Act.put, List.getElem_toArray, List.getElem_cons_succ, List.getElem_cons_zero, List.setIfInBounds_toArray, List.set_cons_zero, List.set_cons_succ]
            refine wpAnyU_all (rs := [31]) (by kernel_rfl) (by simp) (fun i hi => ?_)
            obtain rfl : i = 31 := by simpa using hi
            refine wpOpU_stepG rfl (by rfl) (fun K hK => ?_)
            go_simp
            refine (rringpeek3 (headL b) (by omega) U7.out).mono ?_
            rintro e v8 ⟨he, sq⟩
            rw [Bh.out] at he
            subst he
            obtain ⟨_, _, _, y1⟩ := rring_ev sq
            obtain ⟨_, _, _, y2⟩ := rring_ev (other sq)
            have r8 : v8.cell? ⟨q1, 0, none⟩ = some (ptr x1) ∧ v8.cell? ⟨q2, 0, none⟩ = some (ptr x2) := ⟨y1, y2⟩
            have U8 := Lib.hid sq
            refine hK _ _ ⟨fun _ => r8, ?_⟩
            clear hK K sq y1 y2 U7 r7
            try simp only [Act.put, List.getElem_toArray, List.getElem_cons_succ, List.getElem_cons_zero, List.setIfInBounds_toArray, List.set_cons_zero, List.set_cons_succ]
            refine wpAnyU_take (i := 32) (v := ?_) rfl (by kernel_rfl) (by kernel_rfl) (by kernel_rfl) (by kernel_rfl) (fun _ _ _ h => h) (Or.inl ⟨by rfl, ?_⟩) r8 ?_
            rotate_left 1
            · (intro w' hS; (try dsimp only at hS); (try simp only [List.getElem_toArray, List.getElem_cons_succ, List.getElem_cons_zero]); go_simp; (try with_reducible rfl))
            try simp only [Act.put, List.getElem_toArray, List.getElem_cons_succ, List.getElem_cons_zero, List.setIfInBounds_toArray, List.set_cons_zero, List.set_cons_succ]
            refine wpAnyU_take (i := 33) (v := ?_) rfl (by kernel_rfl) (by kernel_rfl) (by kernel_rfl) (by kernel_rfl) (fun _ _ _ h => h) (Or.inl ⟨by rfl, ?_⟩) r8 ?_
            rotate_left 1
            · (intro w' hS; (try dsimp only at hS); (try simp only [List.getElem_toArray, List.getElem_cons_succ, List.getElem_cons_zero]); go_simp; (try with_reducible rfl))
            try simp only [Act.put, List.getElem_toArray, List.getElem_cons_succ, List.getElem_cons_zero, List.setIfInBounds_toArray, List.set_cons_zero, List.set_cons_succ]
            refine wpAnyU_done (by kernel_rfl) ?_ _
            clear r8
            go_wp2
            go_roundw
            case rel => exact ⟨2, r1 + 1, r2 + 1, by omega, by go_num, by omega, by omega, U8.out⟩
            case measure => simp [intOf]
          · obtain ⟨oE, cE, hE, hq⟩ := rring_ev Sq.out
            obtain ⟨oF, cF, hF, hp⟩ := rring_ev (other Sq.out)
            have b1 := Tr.out.bound; have b2 := Tr.out.le1; have b3 := Tr.out.le2; have bs := Tr.out.sum
            have ws : IntKind.i64.wrap ((τ.log.length : Int) + (ρ.log.length : Int)) = (τ.log.length : Int) + (ρ.log.length : Int) := by rw [IntKind.wrap_i64]; omega
            have Sd := Lib.hid Sq.out.drew
            have hs4 : (World.drew _).cell? ⟨q1, 0, none⟩ = some (ptr x1) ∧ (World.drew _).cell? ⟨x1, 2, none⟩ = some (.slice oE τ.log.length cE) ∧ (World.drew _).cell? ⟨q2, 0, none⟩ = some (ptr x2) ∧ (World.drew _).cell? ⟨x2, 2, none⟩ = some (.slice oF ρ.log.length cF) := ⟨hq, hE, hp, hF⟩
            clear hq hE hp hF
            go_wp2_with fail
            refine wp_region_any (by kernel_rfl) ?_
            change wpAny _ _ _ _ _ _ _ (World.drew _)
            refine wpAny_of_U (S := fun w' => w'.cell? ⟨q1, 0, none⟩ = some (ptr x1) ∧ w'.cell? ⟨x1, 2, none⟩ = some (.slice oE τ.log.length cE) ∧ w'.cell? ⟨q2, 0, none⟩ = some (ptr x2) ∧ w'.cell? ⟨x2, 2, none⟩ = some (.slice oF ρ.log.length cF)) (U := [0, 1, 2, 3, 4, 5, 6, 7, 8, 9, 10, 11, 12, 13, 14, 15, 16, 17, 18, 19]) _ _ _ _ ?_
            refine wpAnyU_take (i := 0) (v := ?_) rfl (by kernel_rfl) (by kernel_rfl) (by kernel_rfl) (by kernel_rfl) (fun _ _ _ h => h) (Or.inl ⟨by rfl, ?_⟩) hs4 ?_
            rotate_left 1
            · (intro w' hS; (try dsimp only at hS); (try simp only [List.getElem_toArray, List.getElem_cons_succ, List.getElem_cons_zero]); go_simp; (try with_reducible rfl))
            try simp only [Act.put, List.getElem_toArray, List.getElem_cons_succ, List.getElem_cons_zero, List.setIfInBounds_toArray, List.set_cons_zero, List.set_cons_succ]
            refine wpAnyU_take (i := 2) (v := ?_) rfl (by kernel_rfl) (by kernel_rfl) (by kernel_rfl) (by kernel_rfl) (fun _ _ _ h => h) (Or.inl ⟨by rfl, ?_⟩) hs4 ?_
            rotate_left 1
            · (intro w' hS; (try dsimp only at hS); (try simp only [List.getElem_toArray, List.getElem_cons_succ, List.getElem_cons_zero]); go_simp; (try with_reducible rfl))
            try simp only [Act.put, List.getElem_toArray, List.getElem_cons_succ, List.getElem_cons_zero, List.setIfInBounds_toArray, List.set_cons_zero, List.set_cons_succ]
            refine wpAnyU_take (i := 3) (v := ?_) rfl (by kernel_rfl) (by kernel_rfl) (by kernel_rfl) (by kernel_rfl) (fun _ _ _ h => h) (Or.inl ⟨by rfl, ?_⟩) hs4 ?_
            rotate_left 1
            · (intro w' hS; (try dsimp only at hS); (try simp only [List.getElem_toArray, List.getElem_cons_succ, List.getElem_cons_zero]); go_simp; (try with_reducible rfl))
            try simp only [Act.put, List.getElem_toArray, List.getElem_cons_succ, List.getElem_cons_zero, List.setIfInBounds_toArray, List.set_cons_zero, List.set_cons_succ]
            refine wpAnyU_take (i := 4) (v := ?_) rfl (by kernel_rfl) (by kernel_rfl) (by kernel_rfl) (by kernel_rfl) (fun _ _ _ h => h) (Or.inl ⟨by rfl, ?_⟩) hs4 ?_
            rotate_left 1
            · (intro w' hS; (try dsimp only at hS); (try simp only [List.getElem_toArray, List.getElem_cons_succ, List.getElem_cons_zero]); go_simp; (try with_reducible rfl))
            try simp only [Act.put, List.getElem_toArray, List.getElem_cons_succ, List.getElem_cons_zero, List.setIfInBounds_toArray, List.set_cons_zero, List.set_cons_succ]
            refine wpAnyU_take (i := 5) (v := ?_) rfl (by kernel_rfl) (by kernel_rfl) (by kernel_rfl) (by kernel_rfl) (fun _ _ _ h => h) (Or.inl ⟨by rfl, ?_⟩) hs4 ?_
            rotate_left 1
            · (intro w' hS; (try dsimp only at hS); (try simp only [List.getElem_toArray, List.getElem_cons_succ, List.getElem_cons_zero]); go_simp; (try with_reducible rfl))
            try simp only [Act.put, List.getElem_toArray, List.getElem_cons_succ, List.getElem_cons_zero, List.setIfInBounds_toArray, List.set_cons_zero, List.set_cons_succ]
            refine wpAnyU_take (i := 6) (v := ?_) rfl (by kernel_rfl) (by kernel_rfl) (by kernel_rfl) (by kernel_rfl) (fun _ _ _ h => h) (Or.inl ⟨by rfl, ?_⟩) hs4 ?_
            rotate_left 1
            · (intro w' hS; (try dsimp only at hS); (try simp only [List.getElem_toArray, List.getElem_cons_succ, List.getElem_cons_zero]); go_simp; (try with_reducible rfl))
            try simp only [Act.put, List.getElem_toArray, List.getElem_cons_succ, List.getElem_cons_zero, List.setIfInBounds_toArray, List.set_cons_zero, List.set_cons_succ]
            refine wpAnyU_take (i := 7) (v := ?_) rfl (by kernel_rfl) (by kernel_rfl) (by kernel_rfl) (by kernel_rfl) (fun _ _ _ h => h) (Or.inl ⟨by rfl, ?_⟩) hs4 ?_
            rotate_left 1
            · (intro w' hS; (try dsimp only at hS); (try simp only [List.getElem_toArray, List.getElem_cons_succ, List.getElem_cons_zero]); go_simp; (try with_reducible rfl))
            try simp only [Act.put, List.getElem_toArray, List.getElem_cons_succ, List.getElem_cons_zero, List.setIfInBounds_toArray, List.set_cons_zero, List.set_cons_succ]
            refine wpAnyU_take (i := 8) (v := ?_) rfl (by kernel_rfl) (by kernel_rfl) (by kernel_rfl) (by kernel_rfl) (fun _ _ _ h => h) (Or.inl ⟨by rfl, ?_⟩) hs4 ?_
            rotate_left 1
            · (intro w' hS; (try dsimp only at hS); (try simp only [List.getElem_toArray, List.getElem_cons_succ, List.getElem_cons_zero]); go_simp; (try with_reducible rfl))
            try simp only [Act.put, List.getElem_toArray, List.getElem_cons_succ, List.getElem_cons_zero, List.setIfInBounds_toArray, List.set_cons_zero, List.set_cons_succ]
            refine wpAnyU_take (i := 9) (v := ?_) rfl (by kernel_rfl) (by kernel_rfl) (by kernel_rfl) (by kernel_rfl) (fun _ _ _ h => h) (Or.inl ⟨by rfl, ?_⟩) hs4 ?_
            rotate_left 1
            · (intro w' hS; (try dsimp only at hS); (try simp only [List.getElem_toArray, List.getElem_cons_succ, List.getElem_cons_zero]); go_simp; (try with_reducible rfl))
            try simp only [Act.put, List.getElem_toArray, List.getElem_cons_succ, List.getElem_cons_zero, List.setIfInBounds_toArray, List.set_cons_zero, List.set_cons_succ]
            refine wpAnyU_take (i := 10) (v := ?_) rfl (by kernel_rfl) (by kernel_rfl) (by kernel_rfl) (by kernel_rfl) (fun _ _ _ h => h) (Or.inl ⟨by rfl, ?_⟩) hs4 ?_
            rotate_left 1
            · (intro w' hS; (try dsimp only at hS); (try simp only [List.getElem_toArray, List.getElem_cons_succ, List.getElem_cons_zero]); go_simp; (try with_reducible rfl))
            try simp only [Act.put, List.getElem_toArray, List.getElem_cons_succ, List.getElem_cons_zero, List.setIfInBounds_toArray, List.set_cons_zero, List.set_cons_succ]
            refine wpAnyU_take (i := 11) (v := ?_) rfl (by kernel_rfl) (by kernel_rfl) (by kernel_rfl) (by kernel_rfl) (fun _ _ _ h => h) (Or.inl ⟨by rfl, ?_⟩) hs4 ?_
            rotate_left 1
            · (intro w' hS; (try dsimp only at hS); (try simp only [List.getElem_toArray, List.getElem_cons_succ, List.getElem_cons_zero]); go_simp; (try with_reducible rfl))
            try simp only [Act.put, List.getElem_toArray, List.getElem_cons_succ, List.getElem_cons_zero, List.setIfInBounds_toArray, List.set_cons_zero, List.set_cons_succ]
            refine wpAnyU_take (i := 12) (v := ?_) rfl (by kernel_rfl) (by kernel_rfl) (by kernel_rfl) (by kernel_rfl) (fun _ _ _ h => h) (Or.inl ⟨by rfl, ?_⟩) hs4 ?_
            rotate_left 1
            · (intro w' hS; (try dsimp only at hS); (try simp only [List.getElem_toArray, List.getElem_cons_succ, List.getElem_cons_zero]); go_simp; (try with_reducible rfl))
            try simp only [Act.put, List.getElem_toArray, List.getElem_cons_succ, List.getElem_cons_zero, List.setIfInBounds_toArray, List.set_cons_zero, List.set_cons_succ]
            refine wpAnyU_take (i := 13) (v := ?_) rfl (by kernel_rfl) (by kernel_rfl) (by kernel_rfl) (by kernel_rfl) (fun _ _ _ h => h) (Or.inl ⟨by rfl, ?_⟩) hs4 ?_
            rotate_left 1
            · (intro w' hS; (try dsimp only at hS); (try simp only [List.getElem_toArray, List.getElem_cons_succ, List.getElem_cons_zero]); go_simp; (try with_reducible rfl))
            try simp only [Act.put, List.getElem_toArray, List.getElem_cons_succ, List.getElem_cons_zero, List.setIfInBounds_toArray, List.set_cons_zero, List.set_cons_succ]
            refine wpAnyU_take (i := 14) (v := ?_) rfl (by kernel_rfl) (by kernel_rfl) (by kernel_rfl) (by kernel_rfl) (fun _ _ _ h => h) (Or.inl ⟨by rfl, ?_⟩) hs4 ?_
            rotate_left 1
            · (intro w' hS; (try dsimp only at hS); (try simp only [List.getElem_toArray, List.getElem_cons_succ, List.getElem_cons_zero]); go_simp; (try with_reducible rfl))
            try simp only [Act.put, List.getElem_toArray, List.getElem_cons_succ, List.getElem_cons_zero, List.setIfInBounds_toArray, List.set_cons_zero, List.set_cons_succ]
            refine wpAnyU_take (i := 15) (v := ?_) rfl (by kernel_rfl) (by kernel_rfl) (by kernel_rfl) (by kernel_rfl) (fun _ _ _ h => h) (Or.inl ⟨by rfl, ?_⟩) hs4 ?_
            rotate_left 1
            · (intro w' hS; (try dsimp only at hS); (try simp only [List.getElem_toArray, List.getElem_cons_succ, List.getElem_cons_zero]); go_simp; (try with_reducible rfl))
            try simp only [Act.put, List.getElem_toArray, List.getElem_cons_succ, List.getElem_cons_zero, List.setIfInBounds_toArray, List.set_cons_zero, List.set_cons_succ]
            refine wpAnyU_take (i := 16) (v := ?_) rfl (by kernel_rfl) (by kernel_rfl) (by kernel_rfl) (by kernel_rfl) (fun _ _ _ h => h) (Or.inl ⟨by rfl, ?_⟩) hs4 ?_
            rotate_left 1
            · (intro w' hS; (try dsimp only at hS); (try simp only [List.getElem_toArray, List.getElem_cons_succ, List.getElem_cons_zero]); go_simp; (try with_reducible rfl))
            try simp only [Act.put, List.getElem_toArray, List.getElem_cons_succ, List.getElem_cons_zero, List.setIfInBounds_toArray, List.set_cons_zero, List.set_cons_succ]
            refine wpAnyU_take (i := 17) (v := ?_) rfl (by kernel_rfl) (by kernel_rfl) (by kernel_rfl) (by kernel_rfl) (fun _ _ _ h => h) (Or.inl ⟨by rfl, ?_⟩) hs4 ?_
            rotate_left 1
            · (intro w' hS; (try dsimp only at hS); (try simp only [List.getElem_toArray, List.getElem_cons_succ, List.getElem_cons_zero]); go_simp; (try with_reducible rfl))
            try simp only [Act.put, List.getElem_toArray, List.getElem_cons_succ, List.getElem_cons_zero, List.setIfInBounds_toArray, List.set_cons_zero, List.set_cons_succ]
            refine wpAnyU_take (i := 18) (v := ?_) rfl (by kernel_rfl) (by kernel_rfl) (by kernel_rfl) (by kernel_rfl) (fun _ _ _ h => h) (Or.inl ⟨by rfl, ?_⟩) hs4 ?_
            rotate_left 1
            · (intro w' hS; (try dsimp only at hS); (try simp only [List.getElem_toArray, List.getElem_cons_succ, List.getElem_cons_zero]); go_simp; (try with_reducible rfl))
            try simp only [Act.put, List.getElem_toArray, List.getElem_cons_succ, List.getElem_cons_zero, List.setIfInBounds_toArray, List.set_cons_zero, List.set_cons_succ]
            refine wpAnyU_all (rs := [1]) (by kernel_rfl) (by simp) (fun i hi => ?_)
            obtain rfl : i = 1 := by simpa using hi
            refine wpOpU_stepG rfl (by rfl) (fun K hK => ?_)
            go_simp
            refine (len0 (Scope.open1 Sd.out) (by omega)).mono ?_
            rintro e wl ⟨he, rfl⟩
            rw [show ((σ.log.length : Nat) : Int) = (τ.log.length : Int) + (ρ.log.length : Int) by omega] at he
            subst he
            refine hK _ _ ⟨fun _ => hs4, ?_⟩
            clear hK K
            try simp only [Act.put, List.getElem_toArray, List.getElem_cons_succ, List.getElem_cons_zero, List.setIfInBounds_toArray, List.set_cons_zero, List.set_cons_succ]
            refine wpAnyU_take (i := 19) (v := ?_) rfl (by kernel_rfl) (by kernel_rfl) (by kernel_rfl) (by kernel_rfl) (fun _ _ _ h => h) (Or.inl ⟨by rfl, ?_⟩) hs4 ?_
            rotate_left 1
            · (intro w' hS; (try dsimp only at hS); (try simp only [List.getElem_toArray, List.getElem_cons_succ, List.getElem_cons_zero]); go_simp; (try with_reducible rfl))
            try simp only [Act.put, List.getElem_toArray, List.getElem_cons_succ, List.getElem_cons_zero, List.setIfInBounds_toArray, List.set_cons_zero, List.set_cons_succ]
            refine wpAnyU_rest _ _ _ _ (fun j hj => ?_) ?_
            · simp at hj; rcases hj with rfl | rfl | rfl | rfl | rfl | rfl | rfl | rfl | rfl | rfl | rfl | rfl | rfl | rfl | rfl | rfl | rfl | rfl | rfl | rfl <;> rfl
            refine wpAny_all (rs := [20]) (by kernel_rfl) (by simp) (fun i hi => ?_)
            obtain rfl : i = 20 := by simpa using hi
            refine wpOpU_stepG rfl (by rfl) (fun K hK => ?_)
            go_simp
            refine hK _ _ ?_
            clear hK K
            try simp only [Act.put, List.getElem_toArray, List.getElem_cons_succ, List.getElem_cons_zero, List.setIfInBounds_toArray, List.set_cons_zero, List.set_cons_succ]
            refine wpAny_done (by kernel_rfl) ?_ _
            clear hs4
            go_wp2
            go_ret
            exact ⟨rfl, Sd.out.below⟩
end Go.Proofs.Ytjipjhmcpjffcad
