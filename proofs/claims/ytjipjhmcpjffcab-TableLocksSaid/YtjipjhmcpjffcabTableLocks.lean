/- TableLocks: of all who Lock a shard just one has it, till it is unlocked; other shards have mutexes of their own. -/
import Derived.Test.YtjipjhmcpjffcabTabT
import Derived.Test.YtjipjhmcpjffcabBoxes
set_option linter.unusedSimpArgs false
set_option linter.unusedVariables false
namespace Go.Proofs.Ytjipjhmcpjffcab
open Go Go.RowKit Go.Maps

@[reducible] def heldC (hv : Int → Bool) : List Value := [.bool (hv 0), .bool (hv 1), .bool (hv 2), .bool (hv 3)]
/-- The mutexes are as they are held. -/
def HeldIs (σ : MS) (hv : Int → Bool) : Prop := ∀ s, 0 ≤ s → s < 4 → σ.num (mutL s) = if hv s = true then 1 else 0
def hvset (hv : Int → Bool) (s : Int) (b : Bool) : Int → Bool := fun j => if j = s then b else hv j
theorem HeldIs.unlock {σ : MS} {hv : Int → Bool} (h : HeldIs σ hv) (who s : Int) : HeldIs ((σ.put who 2 (mutL s)).set (mutL s) 0) (hvset hv s false) := fun j h0 h4 => by
  unfold hvset MS.set
  by_cases e : j = s
  · subst e; simp
  · have ne : mutL j ≠ mutL s := fun h => e (by simpa using h)
    simp only [if_neg ne, if_neg e]
    exact h j h0 h4
theorem HeldIs.lock {σ : MS} {hv : Int → Bool} (h : HeldIs σ hv) (who s : Int) (h0 : 0 ≤ s) (h4 : s < 4) : HeldIs (σ.swap who (mutL s) 0 1) (hvset hv s true) ∧ decide (σ.num (mutL s) = 0) = !hv s := by
  have hs := h s h0 h4
  cases hb : hv s with
  | true =>
    rw [hb, if_pos rfl] at hs
    refine ⟨fun j g0 g4 => ?_, by rw [hs]; rfl⟩
    unfold MS.swap
    rw [if_neg (by rw [hs]; omega)]
    show σ.num (mutL j) = _
    rw [h j g0 g4]
    unfold hvset
    by_cases e : j = s
    · subst e; simp [hb]
    · simp [e]
  | false =>
    rw [hb, if_neg (by simp)] at hs
    refine ⟨fun j g0 g4 => ?_, by rw [hs]; rfl⟩
    unfold MS.swap
    rw [if_pos hs]
    unfold hvset MS.set
    by_cases e : j = s
    · subst e; simp
    · have ne : mutL j ≠ mutL s := fun h => e (by simpa using h)
      simp only [if_neg ne, if_neg e]
      exact h j g0 g4

set_option maxHeartbeats 8000000 in
set_option maxRecDepth 20000 in
theorem tableLocks_row {w : World} (a b : Int) (v : Value) (L : List Us) (_ : I64 a) (_ : I64 b) (_ : True) (h : UsesAt w v L) :
    Calls Try.prog 6 #[.int .i64 a, .int .i64 b, v] w fun e w' => e = .returned (.bool true) ∧ Below w.heap.size w w' := by
  obtain ⟨oa, cp, rfl, hlc, hcm, hel⟩ := h.form
  obtain ⟨n, hn⟩ : ∃ n, n = L.length := ⟨_, rfl⟩
  rw [← hn] at hlc ⊢
  have Hel := Lib.hid hel; have Hn := Lib.hid hn; have S0 := Lib.hid (Scope.empty w)
  clear hel hn h
  go_enter Try.func6, Try.ntmps6
  go_wp2_with fail
  refine (made19_scope S0.out a b).mono ?_
  rintro e w1 ⟨m, p, q, x, rfl, s1⟩
  have S1 := Lib.hid s1
  clear s1
  generalize cl (mshard a b) = sh at S1 ⊢
  generalize cl (mslots a b) = sl at S1 ⊢
  go_wp2_with fail
  refine (awake19_scope S1.out).mono ?_
  rintro e w2 ⟨rfl, s2⟩
  have S2 := Lib.hid (show Scope [] w (w2.alloc (.cells #[.bool false, .bool false, .bool false, .bool false] 51)) [tabA p m sh sl MS.zero, rtabA q x 0 sh sl MS.zero, box w2.heap.size (heldC (fun _ => false)) 51] from s2.box [.bool false, .bool false, .bool false, .bool false] 51)
  clear s2
  go_wp2_with fail
  generalize w2.alloc _ = W at S2 ⊢
  generalize w2.heap.size = B at S2 ⊢
  go_loopw [11] (fun i wr => ∃ (k : Nat) (σ : MS) (hv : Int → Bool), k ≤ n ∧ k ≤ 80 ∧ i = .int .i64 k ∧ σ.log.length ≤ k ∧ HeldIs σ hv ∧ Scope [] w wr [tabA p m sh sl σ, rtabA q x 0 sh sl MS.zero, box B (heldC hv) 51]) (fun i _ => n - (intOf i).toNat)
  case atStart => exact ⟨0, MS.zero, fun _ => false, by omega, by omega, rfl, by simp [MS.zero], fun _ _ _ => rfl, S2.out⟩
  case round =>
    obtain ⟨k, σ, hv, hk, hk2, rfl, hlg, hhv, hs⟩ := hrel
    have Sr := Lib.hid hs; have Hv := Lib.hid hhv
    clear hs hhv S2
    by_cases hlt : k < n
    · by_cases h80 : k < 80
      · obtain ⟨u, hu⟩ : ∃ u, L[k]? = some u := ⟨_, List.getElem?_eq_getElem (by rw [← Hn.out]; exact hlt)⟩
        obtain ⟨hw, g, off, rfl, hc⟩ := Hel.out k u hu
        have hd : ∀ w', Chg [] w w' → (w'.cell? ⟨g, off + k * 9, none⟩ = some (.int .i64 u.k) ∧ w'.cell? ⟨g, off + k * 9 + 1, none⟩ = some (.int .i64 u.who) ∧ w'.cell? ⟨g, off + k * 9 + 2, none⟩ = some (.int .i64 u.obj) ∧ w'.cell? ⟨g, off + k * 9 + 3, none⟩ = some (.int .i64 u.i) ∧ w'.cell? ⟨g, off + k * 9 + 4, none⟩ = some (.int .u64 u.n) ∧ w'.cell? ⟨g, off + k * 9 + 5, none⟩ = some (.int .u64 u.m) ∧ w'.cell? ⟨g, off + k * 9 + 6, none⟩ = some (.int .i64 u.flow) ∧ w'.cell? ⟨g, off + k * 9 + 7, none⟩ = some (.int .i64 u.len) ∧ w'.cell? ⟨g, off + k * 9 + 8, none⟩ = some (.int .i64 u.mark)) := hc
        clear hc hu hw
        have i1 : (k : Int) < (n : Int) := by omega
        have i0 : (0 : Int) ≤ (k : Int) := by omega
        have cr : Chg [] w wr := Sr.out.1
        have ms := mod_lt u.obj (n := 4) (by omega)
        have vs : mod u.obj 4 = 0 ∨ mod u.obj 4 = 1 ∨ mod u.obj 4 = 2 ∨ mod u.obj 4 = 3 := by omega
        clear ms
        go_wp2_with fail
        refine (mod_any (v := u.obj) (n := 4) (by omega) (by omega) _).mono ?_
        rintro e w3 ⟨he, rfl⟩
        rcases vs with vs | vs | vs | vs
        · rw [vs] at he
          subst he
          have Vs := Lib.hid vs
          clear vs
          go_wp2_with fail
          refine (what_any u (n := 3) (by omega) (by omega) _).mono ?_
          rintro e w4 ⟨he, hc⟩
          have S4 := Lib.hid (Sr.out.quiet hc)
          clear hc
          have c4 : Chg [] w w4 := S4.out.1
          have r4 := S4.out.rowm (k := B) (vs := heldC hv) (t := 51) (by simp)
          have f4 := r4.free 0
          have z4 : w4.cell? ⟨B, 0, none⟩ = some (.bool (hv 0)) := r4.cell rfl
          clear r4
          by_cases hz : u.what 3 = 0
          · rw [hz] at he
            subst he
            clear hz
            go_wp2_with fail
            refine ((tunlock_does u.who 0 (by unfold I64; omega) (by omega)).at0 S4.out).mono ?_
            rintro e w5 ⟨rfl, s5⟩
            have r5 := s5.rowm (k := B) (vs := heldC hv) (t := 51) (by simp)
            have f5 := r5.free 0
            have z5 : w5.cell? ⟨B, 0, none⟩ = some (.bool (hv 0)) := r5.cell rfl
            have S5 := Lib.hid s5
            clear s5 r5 f4 z4
            go_wp2_with fail
            go_roundw
            case rel => exact ⟨k + 1, _, hvset hv 0 false, by omega, by omega, by go_num, (by simp [MS.put, MS.set]; omega), Hv.out.unlock u.who 0, Scope.setbox (As := [tabA p m sh sl _, rtabA q x 0 sh sl MS.zero]) (Bs := []) S5.out 0 (.bool false)⟩
            case measure => simp [intOf]; omega
          · have hz' : (u.what 3 == 0) = false := by simpa using hz
            subst he
            have hl := Hv.out.lock u.who 0 (by omega) (by omega)
            have Hl1 := Lib.hid hl.1; have Hl2 := Lib.hid hl.2
            have Hz := Lib.hid hz
            clear hl hz
            have C4 := Lib.hid S4.out.drew
            have c4d : Chg [] w w4.drew := C4.out.1
            go_wp2_with fail
            go_region_held3 (fun w' => Chg [] w w' ∧ w'.cell? ⟨B, 0, none⟩ = some (.bool (hv 0))) (refine ⟨?_, ?_⟩ <;> assumption)
              (first
                | (go_at_call 21
                   refine ((tlock_does u.who 0 (by unfold I64; omega) (by omega)).at0 C4.out).mono ?_
                   rintro e w5 ⟨he, s5⟩
                   rw [Hl2.out] at he
                   subst he
                   have r5 := s5.rowm (k := B) (vs := heldC hv) (t := 51) (by simp)
                   have f5 := r5.free 0
                   have z5 : w5.cell? ⟨B, 0, none⟩ = some (.bool (hv 0)) := r5.cell rfl
                   have c5 : Chg [] w w5 := s5.1
                   have S5 := Lib.hid s5
                   clear s5 r5))
            go_wp2_with fail
            go_roundw
            case rel => exact ⟨k + 1, _, hvset hv 0 true, by omega, by omega, by go_num, (by have := MS.swap_len σ u.who (mutL 0) 0 1; omega), Hl1.out, Scope.setbox (As := [tabA p m sh sl _, rtabA q x 0 sh sl MS.zero]) (Bs := []) S5.out 0 (.bool true)⟩
            case measure => simp [intOf]; omega
        · rw [vs] at he
          subst he
          have Vs := Lib.hid vs
          clear vs
          go_wp2_with fail
          refine (what_any u (n := 3) (by omega) (by omega) _).mono ?_
          rintro e w4 ⟨he, hc⟩
          have S4 := Lib.hid (Sr.out.quiet hc)
          clear hc
          have c4 : Chg [] w w4 := S4.out.1
          have r4 := S4.out.rowm (k := B) (vs := heldC hv) (t := 51) (by simp)
          have f4 := r4.free 1
          have z4 : w4.cell? ⟨B, 1, none⟩ = some (.bool (hv 1)) := r4.cell rfl
          clear r4
          by_cases hz : u.what 3 = 0
          · rw [hz] at he
            subst he
            clear hz
            go_wp2_with fail
            refine ((tunlock_does u.who 1 (by unfold I64; omega) (by omega)).at0 S4.out).mono ?_
            rintro e w5 ⟨rfl, s5⟩
            have r5 := s5.rowm (k := B) (vs := heldC hv) (t := 51) (by simp)
            have f5 := r5.free 1
            have z5 : w5.cell? ⟨B, 1, none⟩ = some (.bool (hv 1)) := r5.cell rfl
            have S5 := Lib.hid s5
            clear s5 r5 f4 z4
            go_wp2_with fail
            go_roundw
            case rel => exact ⟨k + 1, _, hvset hv 1 false, by omega, by omega, by go_num, (by simp [MS.put, MS.set]; omega), Hv.out.unlock u.who 1, Scope.setbox (As := [tabA p m sh sl _, rtabA q x 0 sh sl MS.zero]) (Bs := []) S5.out 1 (.bool false)⟩
            case measure => simp [intOf]; omega
          · have hz' : (u.what 3 == 0) = false := by simpa using hz
            subst he
            have hl := Hv.out.lock u.who 1 (by omega) (by omega)
            have Hl1 := Lib.hid hl.1; have Hl2 := Lib.hid hl.2
            have Hz := Lib.hid hz
            clear hl hz
            have C4 := Lib.hid S4.out.drew
            have c4d : Chg [] w w4.drew := C4.out.1
            go_wp2_with fail
            go_region_held3 (fun w' => Chg [] w w' ∧ w'.cell? ⟨B, 1, none⟩ = some (.bool (hv 1))) (refine ⟨?_, ?_⟩ <;> assumption)
              (first
                | (go_at_call 21
                   refine ((tlock_does u.who 1 (by unfold I64; omega) (by omega)).at0 C4.out).mono ?_
                   rintro e w5 ⟨he, s5⟩
                   rw [Hl2.out] at he
                   subst he
                   have r5 := s5.rowm (k := B) (vs := heldC hv) (t := 51) (by simp)
                   have f5 := r5.free 1
                   have z5 : w5.cell? ⟨B, 1, none⟩ = some (.bool (hv 1)) := r5.cell rfl
                   have c5 : Chg [] w w5 := s5.1
                   have S5 := Lib.hid s5
                   clear s5 r5))
            go_wp2_with fail
            go_roundw
            case rel => exact ⟨k + 1, _, hvset hv 1 true, by omega, by omega, by go_num, (by have := MS.swap_len σ u.who (mutL 1) 0 1; omega), Hl1.out, Scope.setbox (As := [tabA p m sh sl _, rtabA q x 0 sh sl MS.zero]) (Bs := []) S5.out 1 (.bool true)⟩
            case measure => simp [intOf]; omega
        · rw [vs] at he
          subst he
          have Vs := Lib.hid vs
          clear vs
          go_wp2_with fail
          refine (what_any u (n := 3) (by omega) (by omega) _).mono ?_
          rintro e w4 ⟨he, hc⟩
          have S4 := Lib.hid (Sr.out.quiet hc)
          clear hc
          have c4 : Chg [] w w4 := S4.out.1
          have r4 := S4.out.rowm (k := B) (vs := heldC hv) (t := 51) (by simp)
          have f4 := r4.free 2
          have z4 : w4.cell? ⟨B, 2, none⟩ = some (.bool (hv 2)) := r4.cell rfl
          clear r4
          by_cases hz : u.what 3 = 0
          · rw [hz] at he
            subst he
            clear hz
            go_wp2_with fail
            refine ((tunlock_does u.who 2 (by unfold I64; omega) (by omega)).at0 S4.out).mono ?_
            rintro e w5 ⟨rfl, s5⟩
            have r5 := s5.rowm (k := B) (vs := heldC hv) (t := 51) (by simp)
            have f5 := r5.free 2
            have z5 : w5.cell? ⟨B, 2, none⟩ = some (.bool (hv 2)) := r5.cell rfl
            have S5 := Lib.hid s5
            clear s5 r5 f4 z4
            go_wp2_with fail
            go_roundw
            case rel => exact ⟨k + 1, _, hvset hv 2 false, by omega, by omega, by go_num, (by simp [MS.put, MS.set]; omega), Hv.out.unlock u.who 2, Scope.setbox (As := [tabA p m sh sl _, rtabA q x 0 sh sl MS.zero]) (Bs := []) S5.out 2 (.bool false)⟩
            case measure => simp [intOf]; omega
          · have hz' : (u.what 3 == 0) = false := by simpa using hz
            subst he
            have hl := Hv.out.lock u.who 2 (by omega) (by omega)
            have Hl1 := Lib.hid hl.1; have Hl2 := Lib.hid hl.2
            have Hz := Lib.hid hz
            clear hl hz
            have C4 := Lib.hid S4.out.drew
            have c4d : Chg [] w w4.drew := C4.out.1
            go_wp2_with fail
            go_region_held3 (fun w' => Chg [] w w' ∧ w'.cell? ⟨B, 2, none⟩ = some (.bool (hv 2))) (refine ⟨?_, ?_⟩ <;> assumption)
              (first
                | (go_at_call 21
                   refine ((tlock_does u.who 2 (by unfold I64; omega) (by omega)).at0 C4.out).mono ?_
                   rintro e w5 ⟨he, s5⟩
                   rw [Hl2.out] at he
                   subst he
                   have r5 := s5.rowm (k := B) (vs := heldC hv) (t := 51) (by simp)
                   have f5 := r5.free 2
                   have z5 : w5.cell? ⟨B, 2, none⟩ = some (.bool (hv 2)) := r5.cell rfl
                   have c5 : Chg [] w w5 := s5.1
                   have S5 := Lib.hid s5
                   clear s5 r5))
            go_wp2_with fail
            go_roundw
            case rel => exact ⟨k + 1, _, hvset hv 2 true, by omega, by omega, by go_num, (by have := MS.swap_len σ u.who (mutL 2) 0 1; omega), Hl1.out, Scope.setbox (As := [tabA p m sh sl _, rtabA q x 0 sh sl MS.zero]) (Bs := []) S5.out 2 (.bool true)⟩
            case measure => simp [intOf]; omega
        · rw [vs] at he
          subst he
          have Vs := Lib.hid vs
          clear vs
          go_wp2_with fail
          refine (what_any u (n := 3) (by omega) (by omega) _).mono ?_
          rintro e w4 ⟨he, hc⟩
          have S4 := Lib.hid (Sr.out.quiet hc)
          clear hc
          have c4 : Chg [] w w4 := S4.out.1
          have r4 := S4.out.rowm (k := B) (vs := heldC hv) (t := 51) (by simp)
          have f4 := r4.free 3
          have z4 : w4.cell? ⟨B, 3, none⟩ = some (.bool (hv 3)) := r4.cell rfl
          clear r4
          by_cases hz : u.what 3 = 0
          · rw [hz] at he
            subst he
            clear hz
            go_wp2_with fail
            refine ((tunlock_does u.who 3 (by unfold I64; omega) (by omega)).at0 S4.out).mono ?_
            rintro e w5 ⟨rfl, s5⟩
            have r5 := s5.rowm (k := B) (vs := heldC hv) (t := 51) (by simp)
            have f5 := r5.free 3
            have z5 : w5.cell? ⟨B, 3, none⟩ = some (.bool (hv 3)) := r5.cell rfl
            have S5 := Lib.hid s5
            clear s5 r5 f4 z4
            go_wp2_with fail
            go_roundw
            case rel => exact ⟨k + 1, _, hvset hv 3 false, by omega, by omega, by go_num, (by simp [MS.put, MS.set]; omega), Hv.out.unlock u.who 3, Scope.setbox (As := [tabA p m sh sl _, rtabA q x 0 sh sl MS.zero]) (Bs := []) S5.out 3 (.bool false)⟩
            case measure => simp [intOf]; omega
          · have hz' : (u.what 3 == 0) = false := by simpa using hz
            subst he
            have hl := Hv.out.lock u.who 3 (by omega) (by omega)
            have Hl1 := Lib.hid hl.1; have Hl2 := Lib.hid hl.2
            have Hz := Lib.hid hz
            clear hl hz
            have C4 := Lib.hid S4.out.drew
            have c4d : Chg [] w w4.drew := C4.out.1
            go_wp2_with fail
            go_region_held3 (fun w' => Chg [] w w' ∧ w'.cell? ⟨B, 3, none⟩ = some (.bool (hv 3))) (refine ⟨?_, ?_⟩ <;> assumption)
              (first
                | (go_at_call 21
                   refine ((tlock_does u.who 3 (by unfold I64; omega) (by omega)).at0 C4.out).mono ?_
                   rintro e w5 ⟨he, s5⟩
                   rw [Hl2.out] at he
                   subst he
                   have r5 := s5.rowm (k := B) (vs := heldC hv) (t := 51) (by simp)
                   have f5 := r5.free 3
                   have z5 : w5.cell? ⟨B, 3, none⟩ = some (.bool (hv 3)) := r5.cell rfl
                   have c5 : Chg [] w w5 := s5.1
                   have S5 := Lib.hid s5
                   clear s5 r5))
            go_wp2_with fail
            go_roundw
            case rel => exact ⟨k + 1, _, hvset hv 3 true, by omega, by omega, by go_num, (by have := MS.swap_len σ u.who (mutL 3) 0 1; omega), Hl1.out, Scope.setbox (As := [tabA p m sh sl _, rtabA q x 0 sh sl MS.zero]) (Bs := []) S5.out 3 (.bool true)⟩
            case measure => simp [intOf]; omega
      · have e80 : k = 80 := by omega
        go_wp2
        go_ret
        exact ⟨rfl, Sr.out.below⟩
    · have ek : k = n := by omega
      go_wp2
      go_ret
      exact ⟨rfl, Sr.out.below⟩
end Go.Proofs.Ytjipjhmcpjffcab
