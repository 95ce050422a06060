/- The small functions of package weighbridgeref12: At, Leq, Tick, own, found, RightEvents, writes, Conflict. -/
import Derived.Test.YtjipjhmcpjffcacPostR
set_option linter.unusedSimpArgs false
set_option linter.unusedVariables false
set_option maxRecDepth 20000
namespace Go.Proofs.Ytjipjhmcpjffcac
open Go Go.RowKit Go.Maps

/-! ### clocks -/
def ints (L : List Int) : List Value := L.map fun n => .int .i64 n
/-- One clock is nowhere ahead of another one. -/
def le' (a b : List Int) : Prop := ∀ t : Nat, a.getD t 0 ≤ b.getD t 0
theorem le'.trans {a b c : List Int} (h : le' a b) (k : le' b c) : le' a c := fun t => Int.le_trans (h t) (k t)
theorem le'.refl (a : List Int) : le' a a := fun _ => Int.le_refl _
/-- A slice of numbers. -/
def NS (w : World) (v : Value) (L : List Int) : Prop := (v = .slice none 0 0 ∧ L = []) ∨ ∃ g c, v = .slice (some ⟨g, 0, none⟩) L.length c ∧ ∀ j n, L[j]? = some n → w.cell? ⟨g, j, none⟩ = some (.int .i64 n)
theorem ints_length (L : List Int) : (ints L).length = L.length := by simp [ints]
theorem ints_get {L : List Int} {j : Nat} {n : Int} (h : L[j]? = some n) : (ints L)[j]? = some (.int .i64 n) := by simp [ints, h]
theorem ints_one (L : List Int) : ∀ u ∈ ints L, u.oneCell' = true := by
  intro u hu
  obtain ⟨n, _, rfl⟩ := List.mem_map.1 hu
  rfl
theorem NS.of_owns {w : World} {v : Value} {L : List Int} (h : w.ownsRow 0 3 1 v L.length (ints L)) : NS w v L := by
  rcases ownsRow_form h with ⟨rfl, h0⟩ | ⟨g, cap, rfl, _⟩
  · exact .inl ⟨rfl, List.eq_nil_of_length_eq_zero h0⟩
  · exact .inr ⟨g, cap, rfl, fun j n hj => ownsRow_cell h rfl (ints_get hj)⟩
theorem NS.chg {w w' : World} {v : Value} {L : List Int} (h : NS w v L) (c : Chg [] w w') : NS w' v L := by
  rcases h with h | ⟨g, k, h1, h2⟩
  · exact .inl h
  · exact .inr ⟨g, k, h1, fun j n hj => c.cell (h2 j n hj) (by simp)⟩
theorem NS.form {w : World} {v : Value} {L : List Int} (h : NS w v L) : ∃ oa c, v = .slice oa L.length c ∧ ∀ j n, L[j]? = some n → ∃ g, oa = some ⟨g, 0, none⟩ ∧ ∀ w', Chg [] w w' → w'.cell? ⟨g, j, none⟩ = some (.int .i64 n) := by
  rcases h with ⟨rfl, rfl⟩ | ⟨g, c, rfl, h⟩
  · exact ⟨none, 0, rfl, fun j n hj => by simp at hj⟩
  · exact ⟨_, c, rfl, fun j n hj => ⟨g, rfl, fun w' ch => ch.cell (h j n hj) (by simp)⟩⟩

set_option maxHeartbeats 1000000 in
theorem at_any {w : World} {v : Value} {L : List Int} (h : NS w v L) (i : Nat) (hi : i ≤ 1000) (hL : L.length ≤ 1000) : Calls Try.prog 77 #[v, .int .i64 i] w fun e w' => e = .returned (.int .i64 (L.getD i 0)) ∧ w = w' := by
  obtain ⟨oa, c, rfl, hc⟩ := h.form
  obtain ⟨n, hn⟩ : ∃ n, n = L.length := ⟨_, rfl⟩
  rw [← hn] at hL ⊢
  have i0 : (0 : Int) ≤ (i : Int) := by omega
  by_cases hlt : i < n
  · obtain ⟨x, hx⟩ : ∃ x, L[i]? = some x := ⟨_, List.getElem?_eq_getElem (by omega)⟩
    obtain ⟨g, rfl, z⟩ := hc i x hx
    have z0 := z w (Chg.refl _ _)
    have e : L.getD i 0 = x := by simp [List.getD, hx]
    rw [e]
    have i1 : (i : Int) < (n : Int) := by omega
    clear hc hx z e h hn
    go_enter Try.func77, Try.ntmps77
    go_wp2
    go_ret
    exact ⟨rfl, rfl⟩
  · have e : L.getD i 0 = 0 := by simp [List.getD, List.getElem?_eq_none (show L.length ≤ i by omega)]
    rw [e]
    have i1 : (n : Int) ≤ (i : Int) := by omega
    clear hc e h hn
    go_enter Try.func77, Try.ntmps77
    go_wp2
    go_ret
    exact ⟨rfl, rfl⟩

/-- 'max(x, y)' of numbers. -/
theorem wpList_max2 {P : Program} {w : World} {ops : Array Oper} {rest : List Oper} {o : Oper} {act : Act} {Q : Exit → Act → World → Prop} (hg : o.guard = none) (x y : Operand) (ts : Array TypeId)
    (hop : o.op = .call { callee := .builtin .max, args := #[x, y], argTypes := ts }) (a b m : Int) (hx : act.eval x = .int .i64 a) (hy : act.eval y = .int .i64 b)
    (hm : max a b = m) (hK : wpList P ops Q rest (act.put o.dst (.int .i64 m)) w) : wpList P ops Q (o :: rest) act w := by
  refine wpList_plain hg fun K hK' => ?_
  have hr : (Builtin.max_ ts o.type #[.int .i64 a, .int .i64 b]).run P w = .ok (.int .i64 m) w := by
    rw [← hm]
    simp [Builtin.max_, Builtin.max2, List.foldlM, go_sem]
    split <;> omega
  unfold Oper.wp execOp
  simp only [hop, resolve, invoke, builtin, Sem.run_bind, Sem.run_pure, Result.andThen_ok, List.map_toArray, List.map_cons, List.map_nil, hx, hy, hr]
  exact hK' _ _ hK

set_option maxHeartbeats 1000000 in
theorem leq_any {w : World} {va vb : Value} {A B : List Int} (ha : NS w va A) (hb : NS w vb B) (hle : le' A B) (hA : A.length ≤ 64) (hB : B.length ≤ 64) : Calls Try.prog 59 #[va, vb] w fun e w' => e = .returned (.bool true) ∧ Chg [] w w' := by
  obtain ⟨oa, c, ea, _⟩ := ha.form
  obtain ⟨ob, d, eb, _⟩ := hb.form
  obtain ⟨n, hn⟩ : ∃ n, n = A.length := ⟨_, rfl⟩
  obtain ⟨k, hk⟩ : ∃ n, n = B.length := ⟨_, rfl⟩
  obtain ⟨m, hm⟩ : ∃ m : Nat, max (n : Int) (k : Int) = (m : Int) := ⟨max n k, by omega⟩
  have hm64 : m ≤ 64 := by omega
  have Ha := Lib.hid ha; have Hb := Lib.hid hb; have Hle := Lib.hid hle; have Hm := Lib.hid hm; have HA := Lib.hid hA; have HB := Lib.hid hB
  rw [← hn] at ea
  rw [← hk] at eb
  clear ha hb hle hm hn hk hA hB
  subst ea
  subst eb
  go_enter Try.func59, Try.ntmps59
  go_wp2_with fail
  go_loopw [5] (fun i wr => ∃ j : Nat, j ≤ m ∧ i = .int .i64 j ∧ Chg [] w wr) (fun i _ => m - (intOf i).toNat)
  case atStart => exact ⟨0, by omega, rfl, Chg.refl _ _⟩
  case round =>
    obtain ⟨j, hj, rfl, hc⟩ := hrel
    have Hc := Lib.hid hc
    clear hc
    by_cases hlt : j < m
    · have i1 : (j : Int) < (m : Int) := by omega
      have hle := Hle.out j
      obtain ⟨xa, hxa⟩ : ∃ y, y = A.getD j 0 := ⟨_, rfl⟩
      obtain ⟨xb, hxb⟩ : ∃ y, y = B.getD j 0 := ⟨_, rfl⟩
      rw [← hxa, ← hxb] at hle
      have HXa := Lib.hid hxa; have HXb := Lib.hid hxb
      have hle' : ¬ xb < xa := by omega
      clear hle hxa hxb
      go_wp2_with (refine wpList_max2 rfl _ _ _ rfl _ _ (m : Int) rfl rfl Hm.out ?_)
      refine (at_any (Ha.out.chg Hc.out) j (by omega) (by have := HA.out; omega)).mono ?_
      rintro e w1 ⟨he, rfl⟩
      rw [← HXa.out] at he
      subst he
      go_wp2_with fail
      refine (at_any (Hb.out.chg Hc.out) j (by omega) (by have := HB.out; omega)).mono ?_
      rintro e w2 ⟨he, rfl⟩
      rw [← HXb.out] at he
      subst he
      go_wp2_with fail
      go_roundw
      case rel => exact ⟨j + 1, by omega, by go_num, Hc.out⟩
      case measure => simp [intOf]; omega
    · have ej : (m : Int) ≤ (j : Int) := by omega
      go_wp2_with (refine wpList_max2 rfl _ _ _ rfl _ _ (m : Int) rfl rfl Hm.out ?_)
      go_ret
      exact ⟨rfl, Hc.out⟩

/-! ### events -/
/-- A slice of events that may be read for good. -/
def EvF (w : World) (v : Value) (l : List Ev) : Prop := ∃ oa c, v = .slice oa l.length c ∧ ∀ (k : Nat) (x : Ev), l[k]? = some x → ∃ g o, oa = some ⟨g, o, none⟩ ∧ ∀ w', Chg [] w w' →
  (w'.cell? ⟨g, o + k * 5, none⟩ = some (.int .i64 x.who) ∧ w'.cell? ⟨g, o + k * 5 + 1, none⟩ = some (.int .i64 x.kind) ∧ w'.cell? ⟨g, o + k * 5 + 2, none⟩ = some (.int .i64 x.loc.k) ∧ w'.cell? ⟨g, o + k * 5 + 3, none⟩ = some (.int .i64 x.loc.a) ∧ w'.cell? ⟨g, o + k * 5 + 4, none⟩ = some (.int .i64 x.loc.b))
theorem EvF.of {w : World} {v : Value} {l : List Ev} (h : EvSlice w v l) : EvF w v l := by
  rcases h with ⟨rfl, rfl⟩ | ⟨g, o, c, rfl, h⟩
  · exact ⟨none, 0, rfl, fun k x hx => by simp at hx⟩
  · exact ⟨_, c, rfl, fun k x hx => ⟨g, o, rfl, fun w' ch => ev_cells (fun j u hu => ch.cell (h j u hu) (by simp)) hx⟩⟩
theorem EvF.chg {w w' : World} {v : Value} {l : List Ev} (h : EvF w v l) (c : Chg [] w w') : EvF w' v l := by
  obtain ⟨oa, k, h1, h2⟩ := h
  exact ⟨oa, k, h1, fun j x hx => by
    obtain ⟨g, o, h3, h4⟩ := h2 j x hx
    exact ⟨g, o, h3, fun w2 c2 => h4 w2 (c.quiet c2)⟩⟩
/-- By whom and of which kind events may be. -/
def okEv (l : List Ev) : Prop := ∀ x, x ∈ l → 0 ≤ x.who ∧ x.who ≤ 63 ∧ 1 ≤ x.kind ∧ x.kind ≤ 6
set_option maxHeartbeats 1000000 in
theorem right_any {w : World} {v : Value} {l : List Ev} (h : EvF w v l) (hok : okEv l) (hl : l.length ≤ 1000) : Calls Try.prog 71 #[v] w fun e w' => e = .returned (.bool true) ∧ Chg [] w w' := by
  obtain ⟨oa, c, rfl, hc⟩ := h
  obtain ⟨n, hn⟩ : ∃ n, n = l.length := ⟨_, rfl⟩
  rw [← hn] at hl ⊢
  have Hc := Lib.hid hc; have HN := Lib.hid hn; have Hok := Lib.hid hok
  clear hc hn hok
  go_enter Try.func71, Try.ntmps71
  go_wp2_with fail
  go_loopw [3] (fun i wr => ∃ j : Nat, j ≤ n ∧ i = .int .i64 j ∧ Chg [] w wr) (fun i _ => n - (intOf i).toNat)
  case atStart => exact ⟨0, by omega, rfl, Chg.refl _ _⟩
  case round =>
    obtain ⟨j, hj, rfl, hch⟩ := hrel
    have Hch := Lib.hid hch
    clear hch
    by_cases hlt : j < n
    · obtain ⟨x, hx⟩ : ∃ x, l[j]? = some x := ⟨_, List.getElem?_eq_getElem (by rw [← HN.out]; exact hlt)⟩
      obtain ⟨g, o, rfl, z⟩ := Hc.out j x hx
      obtain ⟨z0, z1, z2, z3, z4⟩ := z wr Hch.out
      obtain ⟨k1, k2, k3, k4⟩ := Hok.out x (List.mem_of_getElem? hx)
      have i1 : (j : Int) < (n : Int) := by omega
      have i0 : (0 : Int) ≤ (j : Int) := by omega
      clear z hx
      go_wp2_with fail
      go_roundw
      case rel => exact ⟨j + 1, by omega, by go_num, Hch.out⟩
      case measure => simp [intOf]; omega
    · have ej : (n : Int) ≤ (j : Int) := by omega
      go_wp2
      go_ret
      exact ⟨rfl, Hch.out⟩
/-- The last one of the same worker: where, or -1. -/
def OwnIs (l : List Ev) (i : Nat) (x : Ev) (r : Int) : Prop := (r = -1 ∧ ∀ (m : Nat) (y : Ev), m < i → l[m]? = some y → y.who ≠ x.who) ∨ ∃ (m : Nat) (y : Ev), r = m ∧ m < i ∧ l[m]? = some y ∧ y.who = x.who ∧ ∀ (k : Nat) (z : Ev), m < k → k < i → l[k]? = some z → z.who ≠ x.who
def OwnTold' (w : World) (l : List Ev) (i : Nat) (x : Ev) (e : Ending) (w' : World) : Prop := ∃ r, e = .returned (.int .i64 r) ∧ OwnIs l i x r ∧ Chg [] w w'
set_option maxHeartbeats 1000000 in
theorem own12_any {w : World} {v : Value} {l : List Ev} (h : EvF w v l) {i : Nat} {x : Ev} (hi : l[i]? = some x) (hl : l.length ≤ 1000) : Calls Try.prog 72 #[v, .int .i64 i] w (OwnTold' w l i x) := by
  obtain ⟨oa, c, rfl, hc⟩ := h
  have hil : i < l.length := (List.getElem?_eq_some_iff.1 hi).1
  obtain ⟨n, hn⟩ : ∃ n, n = l.length := ⟨_, rfl⟩
  rw [← hn] at hl hil ⊢
  obtain ⟨g, o, rfl, zx⟩ := hc i x hi
  have Zx := Lib.hid zx
  have i1 : (i : Int) < (n : Int) := by omega
  have i0 : (0 : Int) ≤ (i : Int) := by omega
  have wi : IntKind.i64.wrap ((i : Int) - 1) = (i : Int) - 1 := by rw [IntKind.wrap_i64]; omega
  have Hc := Lib.hid hc; have HN := Lib.hid hn
  clear hc hn zx
  go_enter Try.func72, Try.ntmps72
  go_wp2_with fail
  go_loopw [5] (fun k wr => ∃ j : Nat, j ≤ i ∧ k = .int .i64 ((j : Int) - 1) ∧ Chg [] w wr ∧ ∀ (m : Nat) (y : Ev), j ≤ m → m < i → l[m]? = some y → y.who ≠ x.who) (fun k _ => (intOf k + 1).toNat)
  case atStart => exact ⟨i, by omega, rfl, Chg.refl _ _, fun m y h1 h2 => by omega⟩
  case round =>
    obtain ⟨j, hj, rfl, hch, hno⟩ := hrel
    have Hno := Lib.hid hno; have Hch := Lib.hid hch
    obtain ⟨x0, x1, x2, x3, x4⟩ := Zx.out wr hch
    clear hno hch
    cases j with
    | zero =>
      rw [show ((0 : Nat) : Int) - 1 = -1 from rfl]
      go_wp2
      go_ret
      exact ⟨-1, rfl, .inl ⟨rfl, fun m y hm hy => Hno.out m y (by omega) hm hy⟩, Hch.out⟩
    | succ t =>
      have ejt : ((t + 1 : Nat) : Int) - 1 = (t : Int) := by omega
      rw [ejt]
      clear ejt
      obtain ⟨y, hy⟩ : ∃ y, l[t]? = some y := ⟨_, List.getElem?_eq_getElem (by rw [← HN.out]; omega)⟩
      obtain ⟨g', o', hg', zy⟩ := Hc.out t y hy
      simp at hg'
      obtain ⟨rfl, rfl⟩ := hg'
      obtain ⟨y0, y1, y2, y3, y4⟩ := zy wr Hch.out
      have t1 : (t : Int) < (n : Int) := by omega
      have t0 : (0 : Int) ≤ (t : Int) := by omega
      have wt : IntKind.i64.wrap ((t : Int) - 1) = (t : Int) - 1 := by rw [IntKind.wrap_i64]; omega
      have Hy := Lib.hid hy
      clear zy hy
      by_cases e : y.who = x.who
      · have e' : (y.who == x.who) = true := by simpa using e
        have He := Lib.hid e
        clear e
        go_wp2_with fail
        go_quiet (fail)
        go_wp2
        go_ret
        exact ⟨(t : Int), rfl, .inr ⟨t, y, rfl, by omega, Hy.out, He.out, fun k z h1 h2 hz => Hno.out k z (by omega) h2 hz⟩, Hch.out.drewN nq⟩
      · have e' : (y.who == x.who) = false := by simpa using e
        have He := Lib.hid e
        clear e
        go_wp2_with fail
        go_quiet (fail)
        go_wp2
        go_roundw
        case rel => exact ⟨t, by omega, by go_num, Hch.out.drewN nq, fun m z h1 h2 hz => by
          by_cases em : m = t
          · subst em
            have := Hy.out.symm.trans hz
            simp at this
            subst this
            exact He.out
          · exact Hno.out m z (by omega) h2 hz⟩
        case measure => simp [intOf]
end Go.Proofs.Ytjipjhmcpjffcac
