/- found, writes, Conflict, Tick, Join of package weighbridgeref12. -/
import Derived.Test.YtjipjhmcpjffcacOrd
set_option linter.unusedSimpArgs false
set_option linter.unusedVariables false
set_option maxRecDepth 20000
namespace Go.Proofs.Ytjipjhmcpjffcac
open Go Go.RowKit Go.Maps

def wrB (x : Ev) : Bool := decide (x.kind = 2 ∨ x.kind = 3 ∨ x.kind = 6)
def cfB (a b : Ev) : Bool := decide (a.who ≠ b.who ∧ a.loc = b.loc ∧ (5 ≤ a.kind ∨ 5 ≤ b.kind) ∧ (wrB a = true ∨ wrB b = true))
set_option maxHeartbeats 1000000 in
theorem writes_pure (x : Ev) : Pure Try.prog 76 #[x.val] (.bool (wrB x)) := fun w => by
  have r := Row.new w [.int .i64 x.who, .int .i64 x.kind, .int .i64 x.loc.k, .int .i64 x.loc.a, .int .i64 x.loc.b] 74
  obtain ⟨c0, c1, c2, c3, c4⟩ := r.cells5
  clear r
  unfold wrB Ev.val
  go_enter Try.func76, Try.ntmps76
  go_wp2
  all_goals (go_ret; exact ⟨ret_bool (by rw [Bool.eq_iff_iff]; simp [*]), (Chg.refl _ _).alloc _⟩)
theorem equal_loc_yes {x y : Lc} (h : x = y) (w : World) : (Op.equalIn 10000 72 (.agg #[.int .i64 x.k, .int .i64 x.a, .int .i64 x.b]) (.agg #[.int .i64 y.k, .int .i64 y.a, .int .i64 y.b])).run Try.prog w = .ok true w := by
  rw [equal_loc, decide_eq_true h]
set_option maxHeartbeats 4000000 in
theorem conflict_pure (a b : Ev) : Pure Try.prog 58 #[a.val, b.val] (.bool (cfB a b)) := fun w => by
  have ra := (Row.new w [.int .i64 a.who, .int .i64 a.kind, .int .i64 a.loc.k, .int .i64 a.loc.a, .int .i64 a.loc.b] 74).alloc (.cells #[.int .i64 b.who, .int .i64 b.kind, .int .i64 b.loc.k, .int .i64 b.loc.a, .int .i64 b.loc.b] 74)
  have rb : Row ((w.alloc (.cells #[.int .i64 a.who, .int .i64 a.kind, .int .i64 a.loc.k, .int .i64 a.loc.a, .int .i64 a.loc.b] 74)).alloc (.cells #[.int .i64 b.who, .int .i64 b.kind, .int .i64 b.loc.k, .int .i64 b.loc.a, .int .i64 b.loc.b] 74)) (w.heap.size + 1) [.int .i64 b.who, .int .i64 b.kind, .int .i64 b.loc.k, .int .i64 b.loc.a, .int .i64 b.loc.b] 74 := by
    have := Row.new (w.alloc (.cells #[.int .i64 a.who, .int .i64 a.kind, .int .i64 a.loc.k, .int .i64 a.loc.a, .int .i64 a.loc.b] 74)) [.int .i64 b.who, .int .i64 b.kind, .int .i64 b.loc.k, .int .i64 b.loc.a, .int .i64 b.loc.b] 74
    simpa using this
  have C0 := Lib.hid (((Chg.refl [] w).alloc (.cells #[.int .i64 a.who, .int .i64 a.kind, .int .i64 a.loc.k, .int .i64 a.loc.a, .int .i64 a.loc.b] 74)).alloc (.cells #[.int .i64 b.who, .int .i64 b.kind, .int .i64 b.loc.k, .int .i64 b.loc.a, .int .i64 b.loc.b] 74))
  have Ra := Lib.hid ra; have Rb := Lib.hid rb
  clear ra rb
  by_cases p1 : 5 ≤ a.kind
  · by_cases c1 : a.who = b.who
    · have hv : cfB a b = false := decide_eq_false (fun h => h.1 c1)
      rw [hv]
      clear hv
      unfold Ev.val
      obtain ⟨a0, a1, a2, a3, a4⟩ := Ra.out.cells5
      obtain ⟨b0, b1, b2, b3, b4⟩ := Rb.out.cells5
      have k1 : (5 : Int) ≤ a.kind := p1
      have f1 : (a.who == b.who) = true := by simpa using c1
      have f2 : (a.who != b.who) = false := by simpa using c1
      clear c1
      clear p1
      go_enter Try.func58, Try.ntmps58
      go_wp2_with fail
      go_ret
      exact ⟨rfl, C0.out⟩
    by_cases c2 : a.loc = b.loc
    · by_cases ha : wrB a = true
      · have hv : cfB a b = true := decide_eq_true ⟨c1, c2, Or.inl p1, Or.inl ha⟩
        rw [hv]
        clear hv
        unfold Ev.val
        obtain ⟨a0, a1, a2, a3, a4⟩ := Ra.out.cells5
        obtain ⟨b0, b1, b2, b3, b4⟩ := Rb.out.cells5
        have k1 : (5 : Int) ≤ a.kind := p1
        have f1 : (a.who == b.who) = false := by simpa using c1
        have f2 : (a.who != b.who) = true := by simpa using c1
        have hl := fun w => equal_loc_yes c2 w
        clear c1 c2
        clear p1
        have HA := Lib.hid ha
        clear ha
        go_enter Try.func58, Try.ntmps58
        go_wp2_with fail
        refine (writes_pure a _).mono ?_
        rintro e v1 ⟨he, hc1⟩
        rw [HA.out] at he
        subst he
        have K1 := Lib.hid hc1
        obtain ⟨q00, q01, q02, q03, q04⟩ := (Rb.out.chg hc1 (by simp)).cells5
        clear hc1
        go_wp2_with fail
        go_ret
        exact ⟨rfl, (C0.out.quiet K1.out)⟩
      · by_cases hb : wrB b = true
        · have hv : cfB a b = true := decide_eq_true ⟨c1, c2, Or.inl p1, Or.inr hb⟩
          rw [hv]
          clear hv
          unfold Ev.val
          obtain ⟨a0, a1, a2, a3, a4⟩ := Ra.out.cells5
          obtain ⟨b0, b1, b2, b3, b4⟩ := Rb.out.cells5
          have k1 : (5 : Int) ≤ a.kind := p1
          have f1 : (a.who == b.who) = false := by simpa using c1
          have f2 : (a.who != b.who) = true := by simpa using c1
          have hl := fun w => equal_loc_yes c2 w
          clear c1 c2
          clear p1
          have HA := Lib.hid (show wrB a = false by simpa using ha)
          clear ha
          have HB := Lib.hid hb
          clear hb
          go_enter Try.func58, Try.ntmps58
          go_wp2_with fail
          refine (writes_pure a _).mono ?_
          rintro e v1 ⟨he, hc1⟩
          rw [HA.out] at he
          subst he
          have K1 := Lib.hid hc1
          obtain ⟨q00, q01, q02, q03, q04⟩ := (Rb.out.chg hc1 (by simp)).cells5
          clear hc1
          go_wp2_with fail
          refine (writes_pure b _).mono ?_
          rintro e v2 ⟨he, hc2⟩
          rw [HB.out] at he
          subst he
          have K2 := Lib.hid hc2
          obtain ⟨q10, q11, q12, q13, q14⟩ := (Rb.out.chg (K1.out.quiet hc2) (by simp)).cells5
          clear hc2
          go_wp2_with fail
          go_ret
          exact ⟨rfl, ((C0.out.quiet K1.out).quiet K2.out)⟩
        · have hv : cfB a b = false := decide_eq_false (fun h => h.2.2.2.elim ha hb)
          rw [hv]
          clear hv
          unfold Ev.val
          obtain ⟨a0, a1, a2, a3, a4⟩ := Ra.out.cells5
          obtain ⟨b0, b1, b2, b3, b4⟩ := Rb.out.cells5
          have k1 : (5 : Int) ≤ a.kind := p1
          have f1 : (a.who == b.who) = false := by simpa using c1
          have f2 : (a.who != b.who) = true := by simpa using c1
          have hl := fun w => equal_loc_yes c2 w
          clear c1 c2
          clear p1
          have HA := Lib.hid (show wrB a = false by simpa using ha)
          clear ha
          have HB := Lib.hid (show wrB b = false by simpa using hb)
          clear hb
          go_enter Try.func58, Try.ntmps58
          go_wp2_with fail
          refine (writes_pure a _).mono ?_
          rintro e v1 ⟨he, hc1⟩
          rw [HA.out] at he
          subst he
          have K1 := Lib.hid hc1
          obtain ⟨q00, q01, q02, q03, q04⟩ := (Rb.out.chg hc1 (by simp)).cells5
          clear hc1
          go_wp2_with fail
          refine (writes_pure b _).mono ?_
          rintro e v2 ⟨he, hc2⟩
          rw [HB.out] at he
          subst he
          have K2 := Lib.hid hc2
          obtain ⟨q10, q11, q12, q13, q14⟩ := (Rb.out.chg (K1.out.quiet hc2) (by simp)).cells5
          clear hc2
          go_wp2_with fail
          go_ret
          exact ⟨rfl, ((C0.out.quiet K1.out).quiet K2.out)⟩
    · have hv : cfB a b = false := decide_eq_false (fun h => c2 h.2.1)
      rw [hv]
      clear hv
      unfold Ev.val
      obtain ⟨a0, a1, a2, a3, a4⟩ := Ra.out.cells5
      obtain ⟨b0, b1, b2, b3, b4⟩ := Rb.out.cells5
      have k1 : (5 : Int) ≤ a.kind := p1
      have f1 : (a.who == b.who) = false := by simpa using c1
      have f2 : (a.who != b.who) = true := by simpa using c1
      have hl := fun w => equal_loc_no c2 w
      clear c1 c2
      clear p1
      go_enter Try.func58, Try.ntmps58
      go_wp2_with fail
      go_ret
      exact ⟨rfl, C0.out⟩
  by_cases p2 : 5 ≤ b.kind
  · by_cases c1 : a.who = b.who
    · have hv : cfB a b = false := decide_eq_false (fun h => h.1 c1)
      rw [hv]
      clear hv
      unfold Ev.val
      obtain ⟨a0, a1, a2, a3, a4⟩ := Ra.out.cells5
      obtain ⟨b0, b1, b2, b3, b4⟩ := Rb.out.cells5
      have k1 : a.kind < 5 := by omega
      have k2 : (5 : Int) ≤ b.kind := p2
      have f1 : (a.who == b.who) = true := by simpa using c1
      have f2 : (a.who != b.who) = false := by simpa using c1
      clear c1
      clear p1 p2
      go_enter Try.func58, Try.ntmps58
      go_wp2_with fail
      go_ret
      exact ⟨rfl, C0.out⟩
    by_cases c2 : a.loc = b.loc
    · by_cases ha : wrB a = true
      · have hv : cfB a b = true := decide_eq_true ⟨c1, c2, Or.inr p2, Or.inl ha⟩
        rw [hv]
        clear hv
        unfold Ev.val
        obtain ⟨a0, a1, a2, a3, a4⟩ := Ra.out.cells5
        obtain ⟨b0, b1, b2, b3, b4⟩ := Rb.out.cells5
        have k1 : a.kind < 5 := by omega
        have k2 : (5 : Int) ≤ b.kind := p2
        have f1 : (a.who == b.who) = false := by simpa using c1
        have f2 : (a.who != b.who) = true := by simpa using c1
        have hl := fun w => equal_loc_yes c2 w
        clear c1 c2
        clear p1 p2
        have HA := Lib.hid ha
        clear ha
        go_enter Try.func58, Try.ntmps58
        go_wp2_with fail
        refine (writes_pure a _).mono ?_
        rintro e v1 ⟨he, hc1⟩
        rw [HA.out] at he
        subst he
        have K1 := Lib.hid hc1
        obtain ⟨q00, q01, q02, q03, q04⟩ := (Rb.out.chg hc1 (by simp)).cells5
        clear hc1
        go_wp2_with fail
        go_ret
        exact ⟨rfl, (C0.out.quiet K1.out)⟩
      · by_cases hb : wrB b = true
        · have hv : cfB a b = true := decide_eq_true ⟨c1, c2, Or.inr p2, Or.inr hb⟩
          rw [hv]
          clear hv
          unfold Ev.val
          obtain ⟨a0, a1, a2, a3, a4⟩ := Ra.out.cells5
          obtain ⟨b0, b1, b2, b3, b4⟩ := Rb.out.cells5
          have k1 : a.kind < 5 := by omega
          have k2 : (5 : Int) ≤ b.kind := p2
          have f1 : (a.who == b.who) = false := by simpa using c1
          have f2 : (a.who != b.who) = true := by simpa using c1
          have hl := fun w => equal_loc_yes c2 w
          clear c1 c2
          clear p1 p2
          have HA := Lib.hid (show wrB a = false by simpa using ha)
          clear ha
          have HB := Lib.hid hb
          clear hb
          go_enter Try.func58, Try.ntmps58
          go_wp2_with fail
          refine (writes_pure a _).mono ?_
          rintro e v1 ⟨he, hc1⟩
          rw [HA.out] at he
          subst he
          have K1 := Lib.hid hc1
          obtain ⟨q00, q01, q02, q03, q04⟩ := (Rb.out.chg hc1 (by simp)).cells5
          clear hc1
          go_wp2_with fail
          refine (writes_pure b _).mono ?_
          rintro e v2 ⟨he, hc2⟩
          rw [HB.out] at he
          subst he
          have K2 := Lib.hid hc2
          obtain ⟨q10, q11, q12, q13, q14⟩ := (Rb.out.chg (K1.out.quiet hc2) (by simp)).cells5
          clear hc2
          go_wp2_with fail
          go_ret
          exact ⟨rfl, ((C0.out.quiet K1.out).quiet K2.out)⟩
        · have hv : cfB a b = false := decide_eq_false (fun h => h.2.2.2.elim ha hb)
          rw [hv]
          clear hv
          unfold Ev.val
          obtain ⟨a0, a1, a2, a3, a4⟩ := Ra.out.cells5
          obtain ⟨b0, b1, b2, b3, b4⟩ := Rb.out.cells5
          have k1 : a.kind < 5 := by omega
          have k2 : (5 : Int) ≤ b.kind := p2
          have f1 : (a.who == b.who) = false := by simpa using c1
          have f2 : (a.who != b.who) = true := by simpa using c1
          have hl := fun w => equal_loc_yes c2 w
          clear c1 c2
          clear p1 p2
          have HA := Lib.hid (show wrB a = false by simpa using ha)
          clear ha
          have HB := Lib.hid (show wrB b = false by simpa using hb)
          clear hb
          go_enter Try.func58, Try.ntmps58
          go_wp2_with fail
          refine (writes_pure a _).mono ?_
          rintro e v1 ⟨he, hc1⟩
          rw [HA.out] at he
          subst he
          have K1 := Lib.hid hc1
          obtain ⟨q00, q01, q02, q03, q04⟩ := (Rb.out.chg hc1 (by simp)).cells5
          clear hc1
          go_wp2_with fail
          refine (writes_pure b _).mono ?_
          rintro e v2 ⟨he, hc2⟩
          rw [HB.out] at he
          subst he
          have K2 := Lib.hid hc2
          obtain ⟨q10, q11, q12, q13, q14⟩ := (Rb.out.chg (K1.out.quiet hc2) (by simp)).cells5
          clear hc2
          go_wp2_with fail
          go_ret
          exact ⟨rfl, ((C0.out.quiet K1.out).quiet K2.out)⟩
    · have hv : cfB a b = false := decide_eq_false (fun h => c2 h.2.1)
      rw [hv]
      clear hv
      unfold Ev.val
      obtain ⟨a0, a1, a2, a3, a4⟩ := Ra.out.cells5
      obtain ⟨b0, b1, b2, b3, b4⟩ := Rb.out.cells5
      have k1 : a.kind < 5 := by omega
      have k2 : (5 : Int) ≤ b.kind := p2
      have f1 : (a.who == b.who) = false := by simpa using c1
      have f2 : (a.who != b.who) = true := by simpa using c1
      have hl := fun w => equal_loc_no c2 w
      clear c1 c2
      clear p1 p2
      go_enter Try.func58, Try.ntmps58
      go_wp2_with fail
      go_ret
      exact ⟨rfl, C0.out⟩
  · by_cases c1 : a.who = b.who
    · have hv : cfB a b = false := decide_eq_false (fun h => h.1 c1)
      rw [hv]
      clear hv
      unfold Ev.val
      obtain ⟨a0, a1, a2, a3, a4⟩ := Ra.out.cells5
      obtain ⟨b0, b1, b2, b3, b4⟩ := Rb.out.cells5
      have k1 : a.kind < 5 := by omega
      have k2 : b.kind < 5 := by omega
      have f1 : (a.who == b.who) = true := by simpa using c1
      have f2 : (a.who != b.who) = false := by simpa using c1
      clear c1
      clear p1 p2
      go_enter Try.func58, Try.ntmps58
      go_wp2_with fail
      go_ret
      exact ⟨rfl, C0.out⟩
    by_cases c2 : a.loc = b.loc
    · have hv : cfB a b = false := decide_eq_false (fun h => by have := h.2.2.1; omega)
      rw [hv]
      clear hv
      unfold Ev.val
      obtain ⟨a0, a1, a2, a3, a4⟩ := Ra.out.cells5
      obtain ⟨b0, b1, b2, b3, b4⟩ := Rb.out.cells5
      have k1 : a.kind < 5 := by omega
      have k2 : b.kind < 5 := by omega
      have f1 : (a.who == b.who) = false := by simpa using c1
      have f2 : (a.who != b.who) = true := by simpa using c1
      have hl := fun w => equal_loc_yes c2 w
      clear c1 c2
      clear p1 p2
      go_enter Try.func58, Try.ntmps58
      go_wp2_with fail
      go_ret
      exact ⟨rfl, C0.out⟩
    · have hv : cfB a b = false := decide_eq_false (fun h => c2 h.2.1)
      rw [hv]
      clear hv
      unfold Ev.val
      obtain ⟨a0, a1, a2, a3, a4⟩ := Ra.out.cells5
      obtain ⟨b0, b1, b2, b3, b4⟩ := Rb.out.cells5
      have k1 : a.kind < 5 := by omega
      have k2 : b.kind < 5 := by omega
      have f1 : (a.who == b.who) = false := by simpa using c1
      have f2 : (a.who != b.who) = true := by simpa using c1
      have hl := fun w => equal_loc_no c2 w
      clear c1 c2
      clear p1 p2
      go_enter Try.func58, Try.ntmps58
      go_wp2_with fail
      go_ret
      exact ⟨rfl, C0.out⟩

def isSt (y : Ev) : Prop := y.kind = 2 ∨ y.kind = 3
/-- The last one at the same place at which its clock was told: where, or -1. -/
def FoundIs (l : List Ev) (i : Nat) (x : Ev) (r : Int) : Prop := (r = -1 ∧ ∀ (m : Nat) (y : Ev), m < i → l[m]? = some y → ¬ (y.loc = x.loc ∧ isSt y)) ∨ ∃ (m : Nat) (y : Ev), r = m ∧ m < i ∧ l[m]? = some y ∧ (y.loc = x.loc ∧ isSt y) ∧ ∀ (k : Nat) (z : Ev), m < k → k < i → l[k]? = some z → ¬ (z.loc = x.loc ∧ isSt z)
def FoundTold (w : World) (l : List Ev) (i : Nat) (x : Ev) (e : Ending) (w' : World) : Prop := ∃ r, e = .returned (.int .i64 r) ∧ FoundIs l i x r ∧ Chg [] w w'
set_option maxHeartbeats 4000000 in
theorem found12_any {w : World} {v : Value} {l : List Ev} (h : EvF w v l) {i : Nat} {x : Ev} (hi : l[i]? = some x) (hl : l.length ≤ 1000) : Calls Try.prog 73 #[v, .int .i64 i] w (FoundTold w l i x) := by
  obtain ⟨oa, c, rfl, hc⟩ := h
  have hil : i < l.length := (List.getElem?_eq_some_iff.1 hi).1
  obtain ⟨n, hn⟩ : ∃ n, n = l.length := ⟨_, rfl⟩
  rw [← hn] at hl hil ⊢
  obtain ⟨g, o, rfl, zx⟩ := hc i x hi
  have Zx := Lib.hid zx
  have i1 : (i : Int) < (n : Int) := by omega
  have i0 : (0 : Int) ≤ (i : Int) := by omega
  have wi : IntKind.i64.wrap ((i : Int) - 1) = (i : Int) - 1 := by rw [IntKind.wrap_i64]; omega
  have Hc := Lib.hid hc; have HN := Lib.hid hn
  clear hc hn zx
  go_enter Try.func73, Try.ntmps73
  go_wp2_with fail
  go_loopw [5] (fun k wr => ∃ j : Nat, j ≤ i ∧ k = .int .i64 ((j : Int) - 1) ∧ Chg [] w wr ∧ ∀ (m : Nat) (y : Ev), j ≤ m → m < i → l[m]? = some y → ¬ (y.loc = x.loc ∧ isSt y)) (fun k _ => (intOf k + 1).toNat)
  case atStart => exact ⟨i, by omega, rfl, Chg.refl _ _, fun m y h1 h2 => by omega⟩
  case round =>
    obtain ⟨j, hj, rfl, hch, hno⟩ := hrel
    have Hno := Lib.hid hno; have Hch := Lib.hid hch
    obtain ⟨x0, x1, x2, x3, x4⟩ := Zx.out wr hch
    clear hno hch
    cases j with
    | zero =>
      rw [show ((0 : Nat) : Int) - 1 = -1 from rfl]
      go_wp2
      go_ret
      exact ⟨-1, rfl, .inl ⟨rfl, fun m y hm hy => Hno.out m y (by omega) hm hy⟩, Hch.out⟩
    | succ t =>
      have ejt : ((t + 1 : Nat) : Int) - 1 = (t : Int) := by omega
      rw [ejt]
      clear ejt
      obtain ⟨y, hy⟩ : ∃ y, l[t]? = some y := ⟨_, List.getElem?_eq_getElem (by rw [← HN.out]; omega)⟩
      obtain ⟨g', o', hg', zy⟩ := Hc.out t y hy
      simp at hg'
      obtain ⟨rfl, rfl⟩ := hg'
      obtain ⟨y0, y1, y2, y3, y4⟩ := zy wr Hch.out
      have t1 : (t : Int) < (n : Int) := by omega
      have t0 : (0 : Int) ≤ (t : Int) := by omega
      have wt : IntKind.i64.wrap ((t : Int) - 1) = (t : Int) - 1 := by rw [IntKind.wrap_i64]; omega
      have Hy := Lib.hid hy
      clear zy hy
      by_cases c2 : y.loc = x.loc
      · have hl := fun w => equal_loc_yes c2 w
        by_cases k1 : y.kind = 2
        · have HS := Lib.hid (show y.loc = x.loc ∧ isSt y from ⟨c2, .inl k1⟩)
          have f1 : (y.kind == 2) = true := by simpa using k1
          clear c2 k1
          go_wp2_with fail
          go_quiet (fail)
          go_wp2
          go_ret
          exact ⟨(t : Int), rfl, .inr ⟨t, y, rfl, by omega, Hy.out, HS.out, fun k z h1 h2 hz => Hno.out k z (by omega) h2 hz⟩, Hch.out.drewN nq⟩
        by_cases k2 : y.kind = 3
        · have HS := Lib.hid (show y.loc = x.loc ∧ isSt y from ⟨c2, .inr k2⟩)
          have f1 : (y.kind == 2) = false := by simpa using k1
          have f2 : (y.kind == 3) = true := by simpa using k2
          clear c2 k1 k2
          go_wp2_with fail
          go_quiet (fail)
          go_wp2
          go_ret
          exact ⟨(t : Int), rfl, .inr ⟨t, y, rfl, by omega, Hy.out, HS.out, fun k z h1 h2 hz => Hno.out k z (by omega) h2 hz⟩, Hch.out.drewN nq⟩
        · have HS := Lib.hid (show ¬ (y.loc = x.loc ∧ isSt y) from fun ⟨_, h⟩ => h.elim k1 k2)
          have f1 : (y.kind == 2) = false := by simpa using k1
          have f2 : (y.kind == 3) = false := by simpa using k2
          clear c2 k1 k2
          go_wp2_with fail
          go_quiet (fail)
          go_wp2
          go_roundw
          case rel => exact ⟨t, by omega, by go_num, Hch.out.drewN nq, fun m z h1 h2 hz => by
            by_cases em : m = t
            · subst em
              have := Hy.out.symm.trans hz
              simp at this
              subst this
              exact HS.out
            · exact Hno.out m z (by omega) h2 hz⟩
          case measure => simp [intOf]
      · have HS := Lib.hid (show ¬ (y.loc = x.loc ∧ isSt y) from fun ⟨h, _⟩ => c2 h)
        have hl := fun w => equal_loc_no c2 w
        clear c2
        go_wp2_with fail
        go_quiet (fail)
        go_wp2
        go_roundw
        case rel => exact ⟨t, by omega, by go_num, Hch.out.drewN nq, fun m z h1 h2 hz => by
          by_cases em : m = t
          · subst em
            have := Hy.out.symm.trans hz
            simp at this
            subst this
            exact HS.out
          · exact Hno.out m z (by omega) h2 hz⟩
        case measure => simp [intOf]
end Go.Proofs.Ytjipjhmcpjffcac
