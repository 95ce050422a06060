-- PRINTED BY print.sh 35421559b90ae4d0a3588c463048766b98c2df88dd9212a6774a882060cdf62d: not written by this session
import Derived.Test.YtdpeopcnnhejhaaPWordLivesx0
import Derived.Test.YtdpeopcnnhejhaaPWordLivesx1
namespace Go.Proofs.Ytdpeopcnnhejhaa.PWordLives
open Go.RowKit Go.Proofs.YtdpeopcnnhejhaaW.PrintWords Go.Proofs.YtdpeopcnnhejhaaW.PrintLast Go.Proofs.YtdpeopcnnhejhaaW.PrintMore
attribute [local go_sem] max2_int min2_int max_two min_two max_three min_three max_four min_four   -- for this text's walks alone
set_option linter.unusedVariables false
set_option linter.unusedSimpArgs false

/-! ### weighbridgelaw02_WordLives: function 7 -/
mutual
def weighbridgelaw02_WordLives.l0 : Nat → List Int → Int → Int → Option (Bool)
  | 0, _, _, _ => none
  | k + 1, x1, x5, x6 => if x6 < (x1.length : Int) then (weighbridgelaw02_WordLives.j1 k x1 x5 x6 (decide (x6 < 100))) else (weighbridgelaw02_WordLives.j1 k x1 x5 x6 false)
def weighbridgelaw02_WordLives.j1 : Nat → List Int → Int → Int → Bool → Option (Bool)
  | 0, _, _, _, _ => none
  | k + 1, x1, x5, x6, x20 => if x20 = true then ((word_Count.f x5).bind fun t128 => ((word_State.f x5).bind fun t129 => ((word_More.f k x5).bind fun bt130 => (if 0 ≤ x6 then (if x6 < (x1.length : Int) then (if (Int.tmod (IntKind.u64.wrap (rd x1 x6)) 3) = 1 then ((word_Rest.f x5).bind fun bt133 => (weighbridgelaw02_WordLives.j2 k x1 x5 x6 t128 t129 bt133.1 bt133.2)) else (if (Int.tmod (IntKind.u64.wrap (rd x1 x6)) 3) = 2 then ((word_Shut.f x5).bind fun bt135 => (weighbridgelaw02_WordLives.j2 k x1 x5 x6 t128 t129 bt135.1 bt135.2)) else (weighbridgelaw02_WordLives.j2 k x1 x5 x6 t128 t129 bt130.1 bt130.2))) else (none)) else (none))))) else ((weighbridgelaw02_awake.f k).bind fun t127 => (some t127))
def weighbridgelaw02_WordLives.j2 : Nat → List Int → Int → Int → Int → Int → Int → Bool → Option (Bool)
  | 0, _, _, _, _, _, _, _ => none
  | k + 1, x1, x5, x6, x7, x8, x9, x10 => if x10 = true then (if x8 = 2 then (weighbridgelaw02_WordLives.j3 k x1 x5 x6 x9 x10 true) else ((word_Count.f x9).bind fun t137 => (if t137 < x7 then (weighbridgelaw02_WordLives.j3 k x1 x5 x6 x9 x10 true) else ((word_Right.f x9).bind fun t138 => (weighbridgelaw02_WordLives.j3 k x1 x5 x6 x9 x10 (!t138)))))) else (weighbridgelaw02_WordLives.j3 k x1 x5 x6 x9 x10 false)
def weighbridgelaw02_WordLives.j3 : Nat → List Int → Int → Int → Int → Bool → Bool → Option (Bool)
  | 0, _, _, _, _, _, _ => none
  | k + 1, x1, x5, x6, x9, x10, x67 => if x67 = true then (some false) else (if x10 = true then (weighbridgelaw02_WordLives.l0 k x1 x9 (wrap64 (x6 + 1))) else (weighbridgelaw02_WordLives.l0 k x1 x5 (wrap64 (x6 + 1))))
end
def weighbridgelaw02_WordLives.f (k : Nat) (a0 : Int) (l1 : List Int) : Option (Bool) := (weighbridgelaw02_near.f a0 0).bind fun t126 => (weighbridgelaw02_WordLives.l0 k l1 t126 0)
theorem weighbridgelaw02_WordLives.mono_l : ∀ k, (∀ y0 y1 y2, LeO (weighbridgelaw02_WordLives.l0 k y0 y1 y2) (weighbridgelaw02_WordLives.l0 (k + 1) y0 y1 y2)) ∧ (∀ y0 y1 y2 y3, LeO (weighbridgelaw02_WordLives.j1 k y0 y1 y2 y3) (weighbridgelaw02_WordLives.j1 (k + 1) y0 y1 y2 y3)) ∧ (∀ y0 y1 y2 y3 y4 y5 y6, LeO (weighbridgelaw02_WordLives.j2 k y0 y1 y2 y3 y4 y5 y6) (weighbridgelaw02_WordLives.j2 (k + 1) y0 y1 y2 y3 y4 y5 y6)) ∧ (∀ y0 y1 y2 y3 y4 y5, LeO (weighbridgelaw02_WordLives.j3 k y0 y1 y2 y3 y4 y5) (weighbridgelaw02_WordLives.j3 (k + 1) y0 y1 y2 y3 y4 y5))
  | 0 => ⟨fun _ _ _ r h => by simp [weighbridgelaw02_WordLives.l0] at h, fun _ _ _ _ r h => by simp [weighbridgelaw02_WordLives.j1] at h, fun _ _ _ _ _ _ _ r h => by simp [weighbridgelaw02_WordLives.j2] at h, fun _ _ _ _ _ _ r h => by simp [weighbridgelaw02_WordLives.j3] at h⟩
  | k + 1 => by
    obtain ⟨ih0, ih1, ih2, ih3⟩ := weighbridgelaw02_WordLives.mono_l k
    refine ⟨?_, ?_, ?_, ?_⟩
    · intro y0 y1 y2
      unfold weighbridgelaw02_WordLives.l0
      repeat' first
      | (with_reducible exact ih0 _ _ _)
      | (with_reducible exact ih1 _ _ _ _)
      | (with_reducible exact ih2 _ _ _ _ _ _ _)
      | (with_reducible exact ih3 _ _ _ _ _ _)
      | (with_reducible exact weighbridgelaw02_awake.mono _)
      | (with_reducible exact word_More.mono _ _)
      | (with_reducible exact LeO.refl _)
      | (with_reducible exact LeO.none _)
      | (with_reducible refine LeO.ite ?_ ?_)
      | (with_reducible refine LeO.bind ?_ (fun _ => ?_))
      | exact ih0 _ _ _
      | exact ih1 _ _ _ _
      | exact ih2 _ _ _ _ _ _ _
      | exact ih3 _ _ _ _ _ _
      | exact weighbridgelaw02_awake.mono _
      | exact word_More.mono _ _
      | exact LeO.none _
      | refine LeO.ite ?_ ?_
      | refine LeO.bind ?_ (fun _ => ?_)
    · intro y0 y1 y2 y3
      unfold weighbridgelaw02_WordLives.j1
      repeat' first
      | (with_reducible exact ih0 _ _ _)
      | (with_reducible exact ih1 _ _ _ _)
      | (with_reducible exact ih2 _ _ _ _ _ _ _)
      | (with_reducible exact ih3 _ _ _ _ _ _)
      | (with_reducible exact weighbridgelaw02_awake.mono _)
      | (with_reducible exact word_More.mono _ _)
      | (with_reducible exact LeO.refl _)
      | (with_reducible exact LeO.none _)
      | (with_reducible refine LeO.ite ?_ ?_)
      | (with_reducible refine LeO.bind ?_ (fun _ => ?_))
      | exact ih0 _ _ _
      | exact ih1 _ _ _ _
      | exact ih2 _ _ _ _ _ _ _
      | exact ih3 _ _ _ _ _ _
      | exact weighbridgelaw02_awake.mono _
      | exact word_More.mono _ _
      | exact LeO.none _
      | refine LeO.ite ?_ ?_
      | refine LeO.bind ?_ (fun _ => ?_)
    · intro y0 y1 y2 y3 y4 y5 y6
      unfold weighbridgelaw02_WordLives.j2
      repeat' first
      | (with_reducible exact ih0 _ _ _)
      | (with_reducible exact ih1 _ _ _ _)
      | (with_reducible exact ih2 _ _ _ _ _ _ _)
      | (with_reducible exact ih3 _ _ _ _ _ _)
      | (with_reducible exact weighbridgelaw02_awake.mono _)
      | (with_reducible exact word_More.mono _ _)
      | (with_reducible exact LeO.refl _)
      | (with_reducible exact LeO.none _)
      | (with_reducible refine LeO.ite ?_ ?_)
      | (with_reducible refine LeO.bind ?_ (fun _ => ?_))
      | exact ih0 _ _ _
      | exact ih1 _ _ _ _
      | exact ih2 _ _ _ _ _ _ _
      | exact ih3 _ _ _ _ _ _
      | exact weighbridgelaw02_awake.mono _
      | exact word_More.mono _ _
      | exact LeO.none _
      | refine LeO.ite ?_ ?_
      | refine LeO.bind ?_ (fun _ => ?_)
    · intro y0 y1 y2 y3 y4 y5
      unfold weighbridgelaw02_WordLives.j3
      repeat' first
      | (with_reducible exact ih0 _ _ _)
      | (with_reducible exact ih1 _ _ _ _)
      | (with_reducible exact ih2 _ _ _ _ _ _ _)
      | (with_reducible exact ih3 _ _ _ _ _ _)
      | (with_reducible exact weighbridgelaw02_awake.mono _)
      | (with_reducible exact word_More.mono _ _)
      | (with_reducible exact LeO.refl _)
      | (with_reducible exact LeO.none _)
      | (with_reducible refine LeO.ite ?_ ?_)
      | (with_reducible refine LeO.bind ?_ (fun _ => ?_))
      | exact ih0 _ _ _
      | exact ih1 _ _ _ _
      | exact ih2 _ _ _ _ _ _ _
      | exact ih3 _ _ _ _ _ _
      | exact weighbridgelaw02_awake.mono _
      | exact word_More.mono _ _
      | exact LeO.none _
      | refine LeO.ite ?_ ?_
      | refine LeO.bind ?_ (fun _ => ?_)
theorem weighbridgelaw02_WordLives.mono : ∀ a0 a1 k, LeO (weighbridgelaw02_WordLives.f k a0 a1) (weighbridgelaw02_WordLives.f (k + 1) a0 a1) := by
  intro a0 a1 k
  obtain ⟨ih0, ih1, ih2, ih3⟩ := weighbridgelaw02_WordLives.mono_l k
  unfold weighbridgelaw02_WordLives.f
  repeat' first
      | (with_reducible exact ih0 _ _ _)
      | (with_reducible exact ih1 _ _ _ _)
      | (with_reducible exact ih2 _ _ _ _ _ _ _)
      | (with_reducible exact ih3 _ _ _ _ _ _)
      | (with_reducible exact weighbridgelaw02_awake.mono _)
      | (with_reducible exact word_More.mono _ _)
      | (with_reducible exact LeO.refl _)
      | (with_reducible exact LeO.none _)
      | (with_reducible refine LeO.ite ?_ ?_)
      | (with_reducible refine LeO.bind ?_ (fun _ => ?_))
      | exact ih0 _ _ _
      | exact ih1 _ _ _ _
      | exact ih2 _ _ _ _ _ _ _
      | exact ih3 _ _ _ _ _ _
      | exact weighbridgelaw02_awake.mono _
      | exact word_More.mono _ _
      | exact LeO.none _
      | refine LeO.ite ?_ ?_
      | refine LeO.bind ?_ (fun _ => ?_)
set_option maxHeartbeats 8000000 in
set_option maxRecDepth 100000 in
theorem weighbridgelaw02_WordLives.calls (k : Nat) (a0 : Int) (A1 : Option Addr) (c1 : Nat) (l1 : List Int) (r : Bool) (w : World) (hr1 : Kd.C (Kd.int .i64) w A1 l1.length l1) (hc1 : l1.length ≤ c1) (h : weighbridgelaw02_WordLives.f k a0 l1 = some r) :
    Calls Try.prog 7 #[.int .u64 a0, .slice A1 l1.length c1] w fun e w' => e = .returned (.bool r) ∧ Drawn0 w w' := by
  have HR1 := Aside0.mk hr1
  have HC1 := Aside0.mk hc1
  clear hr1 hc1
  have H : ((weighbridgelaw02_near.f a0 0).bind fun t126 => (weighbridgelaw02_WordLives.l0 k l1 t126 0)) = some r := h
  clear h
  replace H := Option.bind_eq_some_iff.mp H
  obtain ⟨t126, A30, H⟩ := H
  replace H : (weighbridgelaw02_WordLives.l0 k l1 t126 0) = some r := H
  have A3 := Aside0.mk A30
  clear A30
  have H' := Aside0.mk H
  clear H
  go_enter Try.func7, Try.ntmps7
  go_wp2_with (first | ((with_reducible refine gate_callee (f := 16) rfl ?_); refine goesL_ (some 12) rfl rfl Try.func16 (by kernel_rfl) rfl #[.int .u64 a0, .int .i64 0] rfl (by (try simp only [List.map_toArray, List.map_cons, List.map_nil]); first | done | rfl | (simp only [List.length_drop, List.length_take]; rfl)) ?_; (with_reducible refine (weighbridgelaw02_near.calls a0 0 t126 _ A3.out).mono ?_); rintro e w' ⟨rfl, ⟨nd, rfl⟩⟩; refine ⟨_, rfl, ?_⟩))
  go_loopg [5, 6] k (fun kq v5 v6 w' => ∃ (x5_1 : Int) (x6_1 : Int), v5 = .int .u64 x5_1 ∧ v6 = .int .i64 x6_1 ∧ Aside0 (weighbridgelaw02_WordLives.l0 kq l1 x5_1 x6_1 = some r) ∧ Aside0 (kq ≤ k) ∧ Drawn0 w w')
  case atStart => exact ⟨(t126), (0), (by first | rfl | (simp; done) | (simp [*]; done)), (by first | rfl | (simp; done) | (simp [*]; done)), H', ⟨Nat.le_refl _⟩, by repeat (first | exact Drawn0.refl _ | apply Drawn0.step)⟩
  case round =>
    clear H'
    try clear c1
    try clear p2
    obtain ⟨x5_1, x6_1, rfl, rfl, HA, HK1, ⟨m1, rfl⟩⟩ := hrel
    cases gk with
    | zero => exact absurd HA.out (by simp [weighbridgelaw02_WordLives.l0])
    | succ k1 =>
      have H := HA.out
      clear HA
      simp only [weighbridgelaw02_WordLives.l0] at H
      have HC4 := Aside0.mk H
      clear H
      go_upto_region 3 with (fail)
      go_cut [20] (fun v20 wc => ∃ (kq : Nat) (x20_3 : Bool), v20 = .bool x20_3 ∧ Aside0 (weighbridgelaw02_WordLives.j1 kq l1 x5_1 x6_1 x20_3 = some r) ∧ Aside0 (kq ≤ k1) ∧ Drawn0 w wc)
      case first =>
        have H := HC4.out
        clear HC4
        by_cases c5 : x6_1 < (l1.length : Int)
        · rw [if_pos c5] at H
          have c5b0 : decide (x6_1 < (l1.length : Int)) = true := decide_eq_true c5
          clear c5
          (first | rw [c5b0] | (simp only [i64_w, i32_w]; rw [c5b0]) | skip)
          have H' := Aside0.mk H
          clear H
          go_wp2
          go_meet
          case rel => exact ⟨_, (decide (x6_1 < 100)), (by first | rfl | (simp; done) | (simp [*]; done)), H', ⟨by have := HK1.out; first | omega | exact Nat.le_refl _⟩, by repeat (first | exact Drawn0.refl _ | apply Drawn0.step)⟩
        · rw [if_neg c5] at H
          have c5b0 : decide (x6_1 < (l1.length : Int)) = false := decide_eq_false c5
          clear c5
          (first | rw [c5b0] | (simp only [i64_w, i32_w]; rw [c5b0]) | skip)
          have H' := Aside0.mk H
          clear H
          go_wp2
          go_meet
          case rel => exact ⟨_, (false), (by first | rfl | (simp; done) | (simp [*]; done)), H', ⟨by have := HK1.out; first | omega | exact Nat.le_refl _⟩, by repeat (first | exact Drawn0.refl _ | apply Drawn0.step)⟩
      case rest =>
        clear HC4
        try clear c1
        try clear p2
        try clear c5
        try clear c5b0
        try clear p2
        obtain ⟨kq, x20_3, rfl, HA, HJ3, ⟨mc3, rfl⟩⟩ := hcut
        cases kq with
        | zero => exact absurd HA.out (by simp [weighbridgelaw02_WordLives.j1])
        | succ kj3 =>
          have H := HA.out
          clear HA
          simp only [weighbridgelaw02_WordLives.j1] at H
          by_cases c6 : x20_3 = true
          · subst c6
            have H1 : ((word_Count.f x5_1).bind fun t128 => ((word_State.f x5_1).bind fun t129 => ((word_More.f kj3 x5_1).bind fun bt130 => (if 0 ≤ x6_1 then (if x6_1 < (l1.length : Int) then (if (Int.tmod (IntKind.u64.wrap (rd l1 x6_1)) 3) = 1 then ((word_Rest.f x5_1).bind fun bt133 => (weighbridgelaw02_WordLives.j2 kj3 l1 x5_1 x6_1 t128 t129 bt133.1 bt133.2)) else (if (Int.tmod (IntKind.u64.wrap (rd l1 x6_1)) 3) = 2 then ((word_Shut.f x5_1).bind fun bt135 => (weighbridgelaw02_WordLives.j2 kj3 l1 x5_1 x6_1 t128 t129 bt135.1 bt135.2)) else (weighbridgelaw02_WordLives.j2 kj3 l1 x5_1 x6_1 t128 t129 bt130.1 bt130.2))) else (none)) else (none))))) = some r := by rw [if_pos rfl] at H; exact H
            clear H
            have H := H1
            clear H1
            replace H := Option.bind_eq_some_iff.mp H
            obtain ⟨t128, A70, H⟩ := H
            replace H : ((word_State.f x5_1).bind fun t129 => ((word_More.f kj3 x5_1).bind fun bt130 => (if 0 ≤ x6_1 then (if x6_1 < (l1.length : Int) then (if (Int.tmod (IntKind.u64.wrap (rd l1 x6_1)) 3) = 1 then ((word_Rest.f x5_1).bind fun bt133 => (weighbridgelaw02_WordLives.j2 kj3 l1 x5_1 x6_1 t128 t129 bt133.1 bt133.2)) else (if (Int.tmod (IntKind.u64.wrap (rd l1 x6_1)) 3) = 2 then ((word_Shut.f x5_1).bind fun bt135 => (weighbridgelaw02_WordLives.j2 kj3 l1 x5_1 x6_1 t128 t129 bt135.1 bt135.2)) else (weighbridgelaw02_WordLives.j2 kj3 l1 x5_1 x6_1 t128 t129 bt130.1 bt130.2))) else (none)) else (none)))) = some r := H
            have A7 := Aside0.mk A70
            clear A70
            replace H := Option.bind_eq_some_iff.mp H
            obtain ⟨t129, A80, H⟩ := H
            replace H : ((word_More.f kj3 x5_1).bind fun bt130 => (if 0 ≤ x6_1 then (if x6_1 < (l1.length : Int) then (if (Int.tmod (IntKind.u64.wrap (rd l1 x6_1)) 3) = 1 then ((word_Rest.f x5_1).bind fun bt133 => (weighbridgelaw02_WordLives.j2 kj3 l1 x5_1 x6_1 t128 t129 bt133.1 bt133.2)) else (if (Int.tmod (IntKind.u64.wrap (rd l1 x6_1)) 3) = 2 then ((word_Shut.f x5_1).bind fun bt135 => (weighbridgelaw02_WordLives.j2 kj3 l1 x5_1 x6_1 t128 t129 bt135.1 bt135.2)) else (weighbridgelaw02_WordLives.j2 kj3 l1 x5_1 x6_1 t128 t129 bt130.1 bt130.2))) else (none)) else (none))) = some r := H
            have A8 := Aside0.mk A80
            clear A80
            replace H := Option.bind_eq_some_iff.mp H
            obtain ⟨⟨t130, t131⟩, A90, H⟩ := H
            replace H : (if 0 ≤ x6_1 then (if x6_1 < (l1.length : Int) then (if (Int.tmod (IntKind.u64.wrap (rd l1 x6_1)) 3) = 1 then ((word_Rest.f x5_1).bind fun bt133 => (weighbridgelaw02_WordLives.j2 kj3 l1 x5_1 x6_1 t128 t129 bt133.1 bt133.2)) else (if (Int.tmod (IntKind.u64.wrap (rd l1 x6_1)) 3) = 2 then ((word_Shut.f x5_1).bind fun bt135 => (weighbridgelaw02_WordLives.j2 kj3 l1 x5_1 x6_1 t128 t129 bt135.1 bt135.2)) else (weighbridgelaw02_WordLives.j2 kj3 l1 x5_1 x6_1 t128 t129 t130 t131))) else (none)) else (none)) = some r := H
            have A9 := Aside0.mk A90
            clear A90
            by_cases c10 : 0 ≤ x6_1
            · rw [if_pos c10] at H
              have c10b0 : decide (0 ≤ x6_1) = true := decide_eq_true c10
              clear c10
              by_cases c11 : x6_1 < (l1.length : Int)
              · rw [if_pos c11] at H
                have c11b0 : decide (x6_1 < (l1.length : Int)) = true := decide_eq_true c11
                clear c11
                have HC12 := Aside0.mk H
                clear H
                go_upto_block 2 with (first | ((with_reducible refine gate_callee (f := 11) rfl ?_); refine goesL_ (some 24) rfl rfl Try.func11 (by kernel_rfl) rfl #[.int .u64 x5_1] rfl (by (try simp only [List.map_toArray, List.map_cons, List.map_nil]); first | done | rfl | (simp only [List.length_drop, List.length_take]; rfl)) ?_; (with_reducible refine (word_Count.calls x5_1 t128 _ A7.out).mono ?_); rintro e w' ⟨rfl, ⟨nd, rfl⟩⟩; refine ⟨_, rfl, ?_⟩) | ((with_reducible refine gate_callee (f := 12) rfl ?_); refine goesL_ (some 26) rfl rfl Try.func12 (by kernel_rfl) rfl #[.int .u64 x5_1] rfl (by (try simp only [List.map_toArray, List.map_cons, List.map_nil]); first | done | rfl | (simp only [List.length_drop, List.length_take]; rfl)) ?_; (with_reducible refine (word_State.calls x5_1 t129 _ A8.out).mono ?_); rintro e w' ⟨rfl, ⟨nd, rfl⟩⟩; refine ⟨_, rfl, ?_⟩) | ((with_reducible refine gate_callee (f := 15) rfl ?_); refine goesL_ (some 29) rfl rfl Try.func15 (by kernel_rfl) rfl #[.int .u64 x5_1] rfl (by (try simp only [List.map_toArray, List.map_cons, List.map_nil]); first | done | rfl | (simp only [List.length_drop, List.length_take]; rfl)) ?_; (with_reducible refine (word_More.calls kj3 x5_1 t130 t131 _ A9.out).mono ?_); rintro e w' ⟨rfl, ⟨nd, rfl⟩⟩; refine ⟨_, rfl, ?_⟩; have p132 : 0 ≤ (x6_1 : Int) := of_decide_eq_true (by first | (with_reducible assumption) | assumption); have q132 : x6_1 < (l1.length : Int) := of_decide_eq_true (by first | (with_reducible assumption) | assumption); obtain ⟨ad132, e132, hx132_0⟩ := Kd.at_int HR1.out x6_1 p132 q132; cases e132; replace p132 := eq_true p132; replace q132 := eq_true q132))
                (try simp only [Act.put, List.setIfInBounds_toArray, List.set_cons_zero, List.set_cons_succ])
                go_cut [9, 10] (fun v9 v10 wc => ∃ (kq : Nat) (x9_11 : Int) (x10_11 : Bool), v9 = .int .u64 x9_11 ∧ v10 = .bool x10_11 ∧ Aside0 (weighbridgelaw02_WordLives.j2 kq l1 x5_1 x6_1 t128 t129 x9_11 x10_11 = some r) ∧ Aside0 (kq ≤ kj3) ∧ Drawn0 w wc)
                case first =>
                  have H := HC12.out
                  clear HC12
                  by_cases c13 : (Int.tmod (IntKind.u64.wrap (rd l1 x6_1)) 3) = 1
                  · rw [if_pos c13] at H
                    have c13b0 : ((Int.tmod (IntKind.u64.wrap (rd l1 x6_1)) 3) == 1) = true := beq_iff_eq.mpr c13
                    have c13b1 : ((Int.tmod (IntKind.u64.wrap (rd l1 x6_1)) 3) != 1) = false := bne_eq_false_iff_eq.mpr c13
                    clear c13
                    (first | rw [c13b0] | (simp only [i64_w, i32_w]; rw [c13b0]) | skip)
                    replace H := Option.bind_eq_some_iff.mp H
                    obtain ⟨⟨t133, t134⟩, A140, H⟩ := H
                    replace H : (weighbridgelaw02_WordLives.j2 kj3 l1 x5_1 x6_1 t128 t129 t133 t134) = some r := H
                    have A14 := Aside0.mk A140
                    clear A140
                    have H' := Aside0.mk H
                    clear H
                    go_wp2_with (first | ((with_reducible refine gate_callee (f := 17) rfl ?_); refine goesL_ (some 42) rfl rfl Try.func17 (by kernel_rfl) rfl #[.int .u64 x5_1] rfl (by (try simp only [List.map_toArray, List.map_cons, List.map_nil]); first | done | rfl | (simp only [List.length_drop, List.length_take]; rfl)) ?_; (with_reducible refine (word_Rest.calls x5_1 t133 t134 _ A14.out).mono ?_); rintro e w' ⟨rfl, ⟨nd, rfl⟩⟩; refine ⟨_, rfl, ?_⟩))
                    go_meet
                    case rel => exact ⟨_, (t133), (t134), (by first | rfl | (simp; done) | (simp [*]; done)), (by first | rfl | (simp; done) | (simp [*]; done)), H', ⟨by have := HK1.out; have := HJ3.out; first | omega | exact Nat.le_refl _⟩, by repeat (first | exact Drawn0.refl _ | apply Drawn0.step)⟩
                  · rw [if_neg c13] at H
                    have c13b0 : ((Int.tmod (IntKind.u64.wrap (rd l1 x6_1)) 3) == 1) = false := beq_eq_false_iff_ne.mpr c13
                    have c13b1 : ((Int.tmod (IntKind.u64.wrap (rd l1 x6_1)) 3) != 1) = true := bne_iff_ne.mpr c13
                    (first | rw [c13b0] | (simp only [i64_w, i32_w]; rw [c13b0]) | skip)
                    by_cases c15 : (Int.tmod (IntKind.u64.wrap (rd l1 x6_1)) 3) = 2
                    · rw [if_pos c15] at H
                      have c15b0 : ((Int.tmod (IntKind.u64.wrap (rd l1 x6_1)) 3) == 2) = true := beq_iff_eq.mpr c15
                      have c15b1 : ((Int.tmod (IntKind.u64.wrap (rd l1 x6_1)) 3) != 2) = false := bne_eq_false_iff_eq.mpr c15
                      clear c15
                      replace H := Option.bind_eq_some_iff.mp H
                      obtain ⟨⟨t135, t136⟩, A160, H⟩ := H
                      replace H : (weighbridgelaw02_WordLives.j2 kj3 l1 x5_1 x6_1 t128 t129 t135 t136) = some r := H
                      have A16 := Aside0.mk A160
                      clear A160
                      have H' := Aside0.mk H
                      clear H
                      go_wp2_with (first | ((with_reducible refine gate_callee (f := 18) rfl ?_); refine goesL_ (some 49) rfl rfl Try.func18 (by kernel_rfl) rfl #[.int .u64 x5_1] rfl (by (try simp only [List.map_toArray, List.map_cons, List.map_nil]); first | done | rfl | (simp only [List.length_drop, List.length_take]; rfl)) ?_; (with_reducible refine (word_Shut.calls x5_1 t135 t136 _ A16.out).mono ?_); rintro e w' ⟨rfl, ⟨nd, rfl⟩⟩; refine ⟨_, rfl, ?_⟩))
                      go_meet
                      case rel => exact ⟨_, (t135), (t136), (by first | rfl | (simp; done) | (simp [*]; done)), (by first | rfl | (simp; done) | (simp [*]; done)), H', ⟨by have := HK1.out; have := HJ3.out; first | omega | exact Nat.le_refl _⟩, by repeat (first | exact Drawn0.refl _ | apply Drawn0.step)⟩
                    · rw [if_neg c15] at H
                      have c15b0 : ((Int.tmod (IntKind.u64.wrap (rd l1 x6_1)) 3) == 2) = false := beq_eq_false_iff_ne.mpr c15
                      have c15b1 : ((Int.tmod (IntKind.u64.wrap (rd l1 x6_1)) 3) != 2) = true := bne_iff_ne.mpr c15
                      have H' := Aside0.mk H
                      clear H
                      go_wp2
                      go_meet
                      case rel => exact ⟨_, (t130), (t131), (by first | rfl | (simp; done) | (simp [*]; done)), (by first | rfl | (simp; done) | (simp [*]; done)), H', ⟨by have := HK1.out; have := HJ3.out; first | omega | exact Nat.le_refl _⟩, by repeat (first | exact Drawn0.refl _ | apply Drawn0.step)⟩
                case rest =>
                  clear HC12
                  try clear c1
                  try clear p1
                  try clear q1
                  try clear hx1
                  try clear p2
                  try clear c3
                  try clear c5
                  try clear c5b0
                  try clear c6
                  try clear c7
                  try clear c10
                  try clear c10b0
                  try clear c11
                  try clear c11b0
                  try clear c12
                  try clear c13
                  try clear c13b0
                  try clear c13b1
                  try clear p13
                  try clear q13
                  try clear hx13
                  try clear c15
                  try clear c15b0
                  try clear c15b1
                  try clear c16
                  try clear hx132_0
                  try clear p132
                  try clear p2
                  try clear q132
                  obtain ⟨kq, x9_11, x10_11, rfl, rfl, HA, HJ11, ⟨mc11, rfl⟩⟩ := hcut
                  cases kq with
                  | zero => exact absurd HA.out (by simp [weighbridgelaw02_WordLives.j2])
                  | succ kj11 =>
                    have H := HA.out
                    clear HA
                    simp only [weighbridgelaw02_WordLives.j2] at H
                    have HC17 := Aside0.mk H
                    clear H
                    go_upto_region 12 with (fail)
                    go_cut [67] (fun v67 wc => ∃ (kq : Nat) (x67_16 : Bool), v67 = .bool x67_16 ∧ Aside0 (weighbridgelaw02_WordLives.j3 kq l1 x5_1 x6_1 x9_11 x10_11 x67_16 = some r) ∧ Aside0 (kq ≤ kj11) ∧ Drawn0 w wc)
                    case first =>
                      have H := HC17.out
                      clear HC17
                      by_cases c18 : x10_11 = true
                      · subst c18
                        have H1 : (if t129 = 2 then (weighbridgelaw02_WordLives.j3 kj11 l1 x5_1 x6_1 x9_11 true true) else ((word_Count.f x9_11).bind fun t137 => (if t137 < t128 then (weighbridgelaw02_WordLives.j3 kj11 l1 x5_1 x6_1 x9_11 true true) else ((word_Right.f x9_11).bind fun t138 => (weighbridgelaw02_WordLives.j3 kj11 l1 x5_1 x6_1 x9_11 true (!t138)))))) = some r := by rw [if_pos rfl] at H; exact H
                        clear H
                        have H := H1
                        clear H1
                        by_cases c19 : t129 = 2
                        · rw [if_pos c19] at H
                          have c19b0 : (t129 == 2) = true := beq_iff_eq.mpr c19
                          have c19b1 : (t129 != 2) = false := bne_eq_false_iff_eq.mpr c19
                          clear c19
                          (first | rw [c19b0] | (simp only [i64_w, i32_w]; rw [c19b0]) | skip)
                          have H' := Aside0.mk H
                          clear H
                          go_wp2
                          go_meet
                          case rel => exact ⟨_, (true), (by first | rfl | (simp; done) | (simp [*]; done)), H', ⟨by have := HK1.out; have := HJ3.out; have := HJ11.out; first | omega | exact Nat.le_refl _⟩, by repeat (first | exact Drawn0.refl _ | apply Drawn0.step)⟩
                        · rw [if_neg c19] at H
                          have c19b0 : (t129 == 2) = false := beq_eq_false_iff_ne.mpr c19
                          have c19b1 : (t129 != 2) = true := bne_iff_ne.mpr c19
                          (first | rw [c19b0] | (simp only [i64_w, i32_w]; rw [c19b0]) | skip)
                          replace H := Option.bind_eq_some_iff.mp H
                          obtain ⟨t137, A200, H⟩ := H
                          replace H : (if t137 < t128 then (weighbridgelaw02_WordLives.j3 kj11 l1 x5_1 x6_1 x9_11 true true) else ((word_Right.f x9_11).bind fun t138 => (weighbridgelaw02_WordLives.j3 kj11 l1 x5_1 x6_1 x9_11 true (!t138)))) = some r := H
                          have A20 := Aside0.mk A200
                          clear A200
                          by_cases c21 : t137 < t128
                          · rw [if_pos c21] at H
                            have c21b0 : decide (t137 < t128) = true := decide_eq_true c21
                            clear c21
                            have H' := Aside0.mk H
                            clear H
                            go_wp2_with (first | (go_at_call 11; (with_reducible refine (word_Count.calls x9_11 t137 _ A20.out).mono ?_); rintro e w' ⟨rfl, ⟨nd, rfl⟩⟩))
                            go_meet
                            case rel => exact ⟨_, (true), (by first | rfl | (simp; done) | (simp [*]; done)), H', ⟨by have := HK1.out; have := HJ3.out; have := HJ11.out; first | omega | exact Nat.le_refl _⟩, by repeat (first | exact Drawn0.refl _ | apply Drawn0.step)⟩
                          · rw [if_neg c21] at H
                            have c21b0 : decide (t137 < t128) = false := decide_eq_false c21
                            clear c21
                            replace H := Option.bind_eq_some_iff.mp H
                            obtain ⟨t138, A220, H⟩ := H
                            replace H : (weighbridgelaw02_WordLives.j3 kj11 l1 x5_1 x6_1 x9_11 true (!t138)) = some r := H
                            have A22 := Aside0.mk A220
                            clear A220
                            have H' := Aside0.mk H
                            clear H
                            go_wp2_with (first | (go_at_call 11; (with_reducible refine (word_Count.calls x9_11 t137 _ A20.out).mono ?_); rintro e w' ⟨rfl, ⟨nd, rfl⟩⟩) | (go_at_call 10; (with_reducible refine (word_Right.calls x9_11 t138 _ A22.out).mono ?_); rintro e w' ⟨rfl, ⟨nd, rfl⟩⟩))
                            go_meet
                            case rel => exact ⟨_, (!t138), (by first | rfl | (simp; done) | (simp [*]; done)), H', ⟨by have := HK1.out; have := HJ3.out; have := HJ11.out; first | omega | exact Nat.le_refl _⟩, by repeat (first | exact Drawn0.refl _ | apply Drawn0.step)⟩
                      · replace c18 := Bool.eq_false_iff.mpr c18
                        subst c18
                        have H1 : (weighbridgelaw02_WordLives.j3 kj11 l1 x5_1 x6_1 x9_11 false false) = some r := by rw [if_neg (show ¬ (false = true) by decide)] at H; exact H
                        clear H
                        have H := H1
                        clear H1
                        have H' := Aside0.mk H
                        clear H
                        go_wp2
                        go_meet
                        case rel => exact ⟨_, (false), (by first | rfl | (simp; done) | (simp [*]; done)), H', ⟨by have := HK1.out; have := HJ3.out; have := HJ11.out; first | omega | exact Nat.le_refl _⟩, by repeat (first | exact Drawn0.refl _ | apply Drawn0.step)⟩
                    case rest =>
                      clear HC17
                      try clear c1
                      try clear p1
                      try clear q1
                      try clear hx1
                      try clear c2
                      try clear p2
                      try clear c3
                      try clear c5
                      try clear c5b0
                      try clear c6
                      try clear c7
                      try clear c10
                      try clear c10b0
                      try clear c11
                      try clear c11b0
                      try clear c12
                      try clear c13
                      try clear c13b0
                      try clear c13b1
                      try clear p13
                      try clear q13
                      try clear hx13
                      try clear c15
                      try clear c15b0
                      try clear c15b1
                      try clear c16
                      try clear c17
                      try clear c18
                      try clear c19
                      try clear c19b0
                      try clear c19b1
                      try clear c21
                      try clear c21b0
                      try clear hx132_0
                      try clear p1
                      try clear p13
                      try clear p132
                      try clear p2
                      try clear q1
                      try clear q13
                      try clear q132
                      obtain ⟨kq, x67_16, rfl, HA, HJ16, ⟨mc16, rfl⟩⟩ := hcut
                      cases kq with
                      | zero => exact absurd HA.out (by simp [weighbridgelaw02_WordLives.j3])
                      | succ kj16 =>
                        have H := HA.out
                        clear HA
                        simp only [weighbridgelaw02_WordLives.j3] at H
                        by_cases c23 : x67_16 = true
                        · subst c23
                          have H1 : (some false) = some r := by rw [if_pos rfl] at H; exact H
                          clear H
                          have H := H1
                          clear H1
                          obtain rfl := Option.some.inj H
                          go_wp2
                          go_ret
                          exact ⟨by first | rfl | (simp; done) | (simp [*]; done), by repeat (first | exact Drawn0.refl _ | apply Drawn0.step)⟩
                        · replace c23 := Bool.eq_false_iff.mpr c23
                          subst c23
                          have H1 : (if x10_11 = true then (weighbridgelaw02_WordLives.l0 kj16 l1 x9_11 (wrap64 (x6_1 + 1))) else (weighbridgelaw02_WordLives.l0 kj16 l1 x5_1 (wrap64 (x6_1 + 1)))) = some r := by rw [if_neg (show ¬ (false = true) by decide)] at H; exact H
                          clear H
                          have H := H1
                          clear H1
                          by_cases c24 : x10_11 = true
                          · subst c24
                            have H1 : (weighbridgelaw02_WordLives.l0 kj16 l1 x9_11 (wrap64 (x6_1 + 1))) = some r := by rw [if_pos rfl] at H; exact H
                            clear H
                            have H := H1
                            clear H1
                            have H' := Aside0.mk H
                            clear H
                            go_wp2
                            go_roundg kj16
                            case measure => have := HK1.out; have := HJ3.out; have := HJ11.out; have := HJ16.out; omega
                            case rel => exact ⟨(x9_11), (wrap64 (x6_1 + 1)), (by first | rfl | (simp; done) | (simp [*]; done)), (by first | rfl | (simp; done) | (simp [*]; done)), H', ⟨by have := HK1.out; have := HJ3.out; have := HJ11.out; have := HJ16.out; omega⟩, by repeat (first | exact Drawn0.refl _ | apply Drawn0.step)⟩
                          · replace c24 := Bool.eq_false_iff.mpr c24
                            subst c24
                            have H1 : (weighbridgelaw02_WordLives.l0 kj16 l1 x5_1 (wrap64 (x6_1 + 1))) = some r := by rw [if_neg (show ¬ (false = true) by decide)] at H; exact H
                            clear H
                            have H := H1
                            clear H1
                            have H' := Aside0.mk H
                            clear H
                            go_wp2
                            go_roundg kj16
                            case measure => have := HK1.out; have := HJ3.out; have := HJ11.out; have := HJ16.out; omega
                            case rel => exact ⟨(x5_1), (wrap64 (x6_1 + 1)), (by first | rfl | (simp; done) | (simp [*]; done)), (by first | rfl | (simp; done) | (simp [*]; done)), H', ⟨by have := HK1.out; have := HJ3.out; have := HJ11.out; have := HJ16.out; omega⟩, by repeat (first | exact Drawn0.refl _ | apply Drawn0.step)⟩
              · rw [if_neg c11] at H
                exact absurd H (by simp)
            · rw [if_neg c10] at H
              exact absurd H (by simp)
          · replace c6 := Bool.eq_false_iff.mpr c6
            subst c6
            have H1 : ((weighbridgelaw02_awake.f kj3).bind fun t127 => (some t127)) = some r := by rw [if_neg (show ¬ (false = true) by decide)] at H; exact H
            clear H
            have H := H1
            clear H1
            replace H := Option.bind_eq_some_iff.mp H
            obtain ⟨t127, A250, H⟩ := H
            replace H : (some t127) = some r := H
            have A25 := Aside0.mk A250
            clear A250
            obtain rfl := Option.some.inj H
            go_wp2_with (first | ((with_reducible refine gate_callee (f := 9) rfl ?_); refine goesL_ (some 70) rfl rfl Try.func9 (by kernel_rfl) rfl #[] rfl (by (try simp only [List.map_toArray, List.map_cons, List.map_nil]); first | done | rfl | (simp only [List.length_drop, List.length_take]; rfl)) ?_; (with_reducible refine (weighbridgelaw02_awake.calls kj3  t127 _ A25.out).mono ?_); rintro e w' ⟨rfl, ⟨nd, rfl⟩⟩; refine ⟨_, rfl, ?_⟩))
            go_ret
            exact ⟨by first | rfl | (simp; done) | (simp [*]; done), by repeat (first | exact Drawn0.refl _ | apply Drawn0.step)⟩

/-- THE ONE PURE STATEMENT of weighbridgelaw02_WordLives: yours. -/
def weighbridgelaw02_WordLives.Pure : Prop := ∀ (a0 : Int) (l1 : List Int), (Lit.int .u64 a0).wf = true → l1.length ≤ maxLen → l1.length * 8 ≤ 140737488351232 → (∀ x ∈ l1, (Lit.int .i64 x).wf = true) → ∃ k, weighbridgelaw02_WordLives.f k a0 l1 = some true
theorem weighbridgelaw02_WordLives.walk (P : weighbridgelaw02_WordLives.Pure) (a0 : Int) (a1 : Option Addr) (len1 cap1 : Nat) (z1 : List Int) (w : World) (w0 : (Lit.int .u64 a0).wf = true) (w1 : (a1 = none ∧ len1 = 0 ∧ cap1 = 0 ∧ z1 = []) ∨ ∃ x, a1 = some x ∧ len1 ≤ cap1 ∧ cap1 ≤ maxLen ∧ z1.length = cap1 ∧ (∀ i, i < z1.length → w.cell? (x.add i) = some (.int .i64 (z1.getD i 0))) ∧ ∀ n ∈ z1, (Lit.int .i64 n).wf = true) (y1 : len1 * 8 ≤ 140737488351232) :
    Calls Try.prog 7 #[.int .u64 a0, .slice a1 len1 cap1] w fun e w' => e = .returned (.bool true) ∧ Below w.heap.size w w' := by
  obtain ⟨l1, rfl, hr1, hm1, hw1, hc1⟩ := ReadsInt.ofRowC w1
  obtain ⟨k, h⟩ := P a0 l1 w0 hm1 y1 hw1
  refine (weighbridgelaw02_WordLives.calls k a0 _ _ l1 true w (Kd.C_of_reads (d := (0 : Int)) (h1 := fun _ => rfl) hr1) hc1 h).mono ?_
  rintro e w' ⟨rfl, hd⟩
  exact ⟨rfl, hd.below⟩

end Go.Proofs.Ytdpeopcnnhejhaa.PWordLives
