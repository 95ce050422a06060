/- Lists of events: two are held against each other (Plain, Same), one is copied (slices.Clone, Events). -/
import Derived.Test.YtcbipbnomgdklaaMemB
import Derived.Lib.SliceRun
import Derived.Laws.StructEq
set_option linter.unusedSimpArgs false
set_option linter.unusedVariables false
namespace Go.Proofs.Ytcbipbnomgdklaa
open Go Go.RowKit Go.Maps

@[reducible] def Ev.val (e : Ev) : Value := .agg #[.int .i64 e.who, .int .i64 e.kind, .int .i64 e.loc.k, .int .i64 e.loc.a, .int .i64 e.loc.b]

/-- A slice value that reads as these events. -/
def EvSlice (w : World) (v : Value) (L : List Ev) : Prop :=
  (v = .slice none 0 0 ∧ L = []) ∨ ∃ g off c, v = .slice (some ⟨g, off, none⟩) L.length c ∧ ∀ j u, (evs L)[j]? = some u → w.cell? ⟨g, off + j, none⟩ = some u

theorem ret_bool {a b : Bool} (h : a = b) : Ending.returned (.bool a) = .returned (.bool b) := by rw [h]
theorem ret_int {k : IntKind} {a b : Int} (h : a = b) : Ending.returned (.int k a) = .returned (.int k b) := by rw [h]

theorem eqEv_any (a b : Ev) (w : World) : Calls Try.prog 28 #[a.val, b.val] w fun e w' => e = .returned (.bool (decide (a = b))) ∧ Chg [] w w' := by
  unfold Ev.val
  obtain ⟨a1, a2, a3, a4, a5⟩ := a
  obtain ⟨b1, b2, b3, b4, b5⟩ := b
  go_enter Try.func28, Try.ntmps28
  go_wp2
  all_goals (go_ret; exact ⟨ret_bool (by simp [*]), ((Chg.refl _ _).alloc _).alloc _⟩)

/-- Element k of a slice of events. -/
theorem evs_get (L : List Ev) : ∀ (k : Nat) (e : Ev), L[k]? = some e → ∀ j u, e.cells[j]? = some u → (evs L)[5 * k + j]? = some u := by
  induction L with
  | nil => intro k e h; simp at h
  | cons x L ih =>
    intro k e h j u hu
    have hj : j < 5 := by
      have := (List.getElem?_eq_some_iff.1 hu).1
      simpa [Ev.cells] using this
    cases k with
    | zero =>
      simp at h
      subst h
      have : evs (x :: L) = x.cells ++ evs L := by simp [evs]
      rw [this, List.getElem?_append_left (by simpa [Ev.cells] using hj)]
      simpa using hu
    | succ k =>
      have e1 : evs (x :: L) = x.cells ++ evs L := by simp [evs]
      rw [e1, List.getElem?_append_right (by simp [Ev.cells]; omega)]
      have := ih k e (by simpa using h) j u hu
      rw [show 5 * (k + 1) + j - x.cells.length = 5 * k + j by simp [Ev.cells]; omega]
      exact this

/-- The five cells of element k. -/
theorem ev_cells {w : World} {g o k : Nat} {L : List Ev} {x : Ev} (hc : ∀ j u, (evs L)[j]? = some u → w.cell? ⟨g, o + j, none⟩ = some u) (hx : L[k]? = some x) :
    w.cell? ⟨g, o + k * 5, none⟩ = some (.int .i64 x.who) ∧ w.cell? ⟨g, o + k * 5 + 1, none⟩ = some (.int .i64 x.kind) ∧ w.cell? ⟨g, o + k * 5 + 2, none⟩ = some (.int .i64 x.loc.k) ∧
    w.cell? ⟨g, o + k * 5 + 3, none⟩ = some (.int .i64 x.loc.a) ∧ w.cell? ⟨g, o + k * 5 + 4, none⟩ = some (.int .i64 x.loc.b) := by
  have h := fun j u hu => hc _ u (evs_get L k x hx j u hu)
  have e : ∀ j, o + (5 * k + j) = o + k * 5 + j := fun j => by omega
  simp only [e] at h
  exact ⟨h 0 _ rfl, h 1 _ rfl, h 2 _ rfl, h 3 _ rfl, h 4 _ rfl⟩

theorem take_eq_step {A B : List Ev} {k : Nat} {x : Ev} (h : A.take k = B.take k) (ha : A[k]? = some x) (hb : B[k]? = some x) : A.take (k + 1) = B.take (k + 1) := by
  rw [List.take_add_one, List.take_add_one, h, ha, hb]

theorem ne_of_at {A B : List Ev} {k : Nat} {x y : Ev} (ha : A[k]? = some x) (hb : B[k]? = some y) (h : x ≠ y) : A ≠ B := fun e => by
  subst e
  rw [ha] at hb
  exact h (Option.some.inj hb)

set_option maxHeartbeats 1000000 in
/-- Two lists of one length. -/
theorem sameEv_rows {w : World} {g h o q c d n : Nat} {A B : List Ev} (hA : A.length = n) (hB : B.length = n) (hn : n ≤ 1000000)
    (ca : ∀ j u, (evs A)[j]? = some u → w.cell? ⟨g, o + j, none⟩ = some u) (cb : ∀ j u, (evs B)[j]? = some u → w.cell? ⟨h, q + j, none⟩ = some u) :
    Calls Try.prog 27 #[.slice (some ⟨g, o, none⟩) n c, .slice (some ⟨h, q, none⟩) n d, .func (.func 28) #[] #[]] w fun e w' => e = .returned (.bool (decide (A = B))) ∧ Chg [] w w' := by
  have CA := Lib.hid ca; have CB := Lib.hid cb; have HA := Lib.hid hA; have HB := Lib.hid hB
  clear ca cb hA hB
  go_enter Try.func27, Try.ntmps27
  go_wp2_with fail
  go_loopw [7] (fun i wr => ∃ k : Nat, k ≤ n ∧ i = .int .i64 k ∧ A.take k = B.take k ∧ Chg [] w wr) (fun i _ => n - (intOf i).toNat)
  case atStart => exact ⟨0, by omega, rfl, by simp, Chg.refl _ _⟩
  case round =>
    obtain ⟨k, hk, rfl, ht, hc⟩ := hrel
    have Ht := Lib.hid ht; have Hc := Lib.hid hc
    clear ht hc
    by_cases hlt : k < n
    · obtain ⟨x, hx⟩ : ∃ x, A[k]? = some x := ⟨_, List.getElem?_eq_getElem (by rw [HA.out]; exact hlt)⟩
      obtain ⟨y, hy⟩ : ∃ y, B[k]? = some y := ⟨_, List.getElem?_eq_getElem (by rw [HB.out]; exact hlt)⟩
      obtain ⟨a0, a1, a2, a3, a4⟩ := ev_cells (fun j u hu => Hc.out.cell (CA.out j u hu) (by simp)) hx
      obtain ⟨b0, b1, b2, b3, b4⟩ := ev_cells (fun j u hu => Hc.out.cell (CB.out j u hu) (by simp)) hy
      by_cases e : x = y
      · subst e
        have Hx := Lib.hid hx; have Hy := Lib.hid hy
        clear hx hy
        go_wp2_with fail
        go_still_tail 9, (by kernel_rfl)
        change wpList _ _ _ _ _ wr.drew
        go_wp2_with fail
        refine (eqEv_any x x _).mono ?_
        rintro e w1 ⟨he, hc1⟩
        rw [decide_eq_true rfl] at he
        subst he
        have C1 := Lib.hid hc1
        clear hc1 a0 a1 a2 a3 a4 b0 b1 b2 b3 b4
        go_wp2
        go_roundw
        case rel => exact ⟨k + 1, by omega, by go_num, take_eq_step Ht.out Hx.out Hy.out, (Hc.out.drew).quiet C1.out⟩
        case measure => simp [intOf]; omega
      · have Hx := Lib.hid hx; have Hy := Lib.hid hy; have He := Lib.hid e
        clear hx hy e
        go_wp2_with fail
        go_still_tail 9, (by kernel_rfl)
        change wpList _ _ _ _ _ wr.drew
        go_wp2_with fail
        refine (eqEv_any x y _).mono ?_
        rintro e w1 ⟨he, hc1⟩
        rw [decide_eq_false He.out] at he
        subst he
        have C1 := Lib.hid hc1
        clear hc1 a0 a1 a2 a3 a4 b0 b1 b2 b3 b4
        go_wp2
        go_ret
        exact ⟨ret_bool (decide_eq_false (ne_of_at Hx.out Hy.out He.out)).symm, (Hc.out.drew).quiet C1.out⟩
    · go_wp2
      go_ret
      have e : k = n := by omega
      subst e
      have h1 : A = B := by
        have := Ht.out
        rwa [List.take_of_length_le (by rw [HA.out]; exact Nat.le_refl _), List.take_of_length_le (by rw [HB.out]; exact Nat.le_refl _)] at this
      exact ⟨ret_bool (decide_eq_true h1).symm, Hc.out⟩

/-- Two lists of two lengths. -/
theorem sameEv_lens {w : World} {a b : Option Addr} {n m c d : Nat} (hne : ((n : Int) != (m : Int)) = true) (f : Value) :
    Calls Try.prog 27 #[.slice a n c, .slice b m d, f] w fun e w' => e = .returned (.bool false) ∧ w = w' := by
  go_enter Try.func27, Try.ntmps27
  go_wp2
  go_ret
  exact ⟨rfl, rfl⟩

/-- Two empty lists. -/
theorem sameEv_none {w : World} {a b : Option Addr} {c d : Nat} (f : Value) :
    Calls Try.prog 27 #[.slice a 0 c, .slice b 0 d, f] w fun e w' => e = .returned (.bool true) ∧ w = w' := by
  go_enter Try.func27, Try.ntmps27
  go_wp2_with fail
  refine wp_loop_rounds 1 ?_
  rw [rounds_succ]
  go_wp2
  go_ret
  exact ⟨rfl, rfl⟩

theorem sameEv_any {w : World} {va vb : Value} {A B : List Ev} (ha : EvSlice w va A) (hb : EvSlice w vb B) (hla : A.length ≤ 1000000) :
    Calls Try.prog 27 #[va, vb, .func (.func 28) #[] #[]] w fun e w' => e = .returned (.bool (decide (A = B))) ∧ Chg [] w w' := by
  by_cases hl : A.length = B.length
  · rcases ha with ⟨rfl, rfl⟩ | ⟨g, o, c, rfl, ca⟩
    · have : B = [] := List.eq_nil_of_length_eq_zero (by simpa using hl.symm)
      subst this
      rcases hb with ⟨rfl, _⟩ | ⟨h, q, d, rfl, cb⟩
      · exact (sameEv_none _).mono fun _ _ ⟨he, hw⟩ => ⟨by rw [he]; simp, hw ▸ Chg.refl _ _⟩
      · exact (sameEv_none _).mono fun _ _ ⟨he, hw⟩ => ⟨by rw [he]; simp, hw ▸ Chg.refl _ _⟩
    · rcases hb with ⟨rfl, rfl⟩ | ⟨h, q, d, rfl, cb⟩
      · have : A = [] := List.eq_nil_of_length_eq_zero (by simpa using hl)
        subst this
        exact (sameEv_none _).mono fun _ _ ⟨he, hw⟩ => ⟨by rw [he]; simp, hw ▸ Chg.refl _ _⟩
      · rw [← hl]
        exact sameEv_rows rfl hl.symm hla ca cb
  · have hne : A ≠ B := fun e => hl (by rw [e])
    have hi : ((A.length : Int) != (B.length : Int)) = true := by simp; omega
    rw [decide_eq_false hne]
    rcases ha with ⟨rfl, rfl⟩ | ⟨g, o, c, rfl, ca⟩ <;> rcases hb with ⟨rfl, rfl⟩ | ⟨h, q, d, rfl, cb⟩ <;>
      exact (sameEv_lens hi _).mono fun _ _ ⟨he, hw⟩ => ⟨he, hw ▸ Chg.refl _ _⟩

/-- Plain. -/
theorem plainEv_any {w : World} {va vb : Value} {A B : List Ev} (ha : EvSlice w va A) (hb : EvSlice w vb B) (hla : A.length ≤ 1000000) :
    Calls Try.prog 13 #[va, vb] w fun e w' => e = .returned (.bool (decide (A = B))) ∧ Chg [] w w' := by
  have HA := Lib.hid ha; have HB := Lib.hid hb
  clear ha hb
  go_enter Try.func13, Try.ntmps13
  go_wp2_with fail
  refine (sameEv_any HA.out HB.out hla).mono ?_
  rintro e w1 ⟨rfl, hc⟩
  have C := Lib.hid hc
  clear hc
  go_wp2
  go_ret
  exact ⟨rfl, C.out⟩

end Go.Proofs.Ytcbipbnomgdklaa
