/- Packets, and results (Ret): slices of packets that are held against each other, and copied. -/
import Derived.Test.YtjipjhmcpjffcacUsesP
import Derived.Test.YtjipjhmcpjffcacBoxes
set_option linter.unusedSimpArgs false
set_option linter.unusedVariables false
set_option maxRecDepth 20000
namespace Go.Proofs.Ytjipjhmcpjffcac
open Go Go.RowKit Go.Maps

/-- A packet. -/
structure Pk where
  flow : Int
  len : Int
  mark : Int
  deriving DecidableEq
def Pk.cells (p : Pk) : List Value := [.int .i64 p.flow, .int .i64 p.len, .int .i64 p.mark]
@[reducible] def Pk.val (p : Pk) : Value := .agg #[.int .i64 p.flow, .int .i64 p.len, .int .i64 p.mark]
def Pk.zero : Pk := ⟨0, 0, 0⟩
def pks (l : List Pk) : List Value := l.flatMap Pk.cells
theorem pks_length (l : List Pk) : (pks l).length = l.length * 3 := by
  unfold pks
  induction l with
  | nil => rfl
  | cons e l ih => simp [Pk.cells, ih]; omega
theorem pks_get (l : List Pk) : ∀ (k : Nat) (p : Pk), l[k]? = some p → ∀ j u, p.cells[j]? = some u → (pks l)[k * 3 + j]? = some u := by
  induction l with
  | nil => intro k p h; simp at h
  | cons x l ih =>
    intro k p h j u hu
    have e : pks (x :: l) = x.cells ++ pks l := by simp [pks]
    have hl : x.cells.length = 3 := rfl
    have hj : j < 3 := (List.getElem?_eq_some_iff.1 hu).1
    cases k with
    | zero => simp at h; subst h; rw [e, Nat.zero_mul, Nat.zero_add, List.getElem?_append_left (by omega)]; exact hu
    | succ k =>
      rw [e, List.getElem?_append_right (by omega), hl, show (k + 1) * 3 + j - 3 = k * 3 + j by omega]
      exact ih k p (by simpa using h) j u hu
theorem pks_one (L : List Pk) : ∀ u ∈ pks L, u.oneCell' = true := by
  intro u hu
  unfold pks at hu
  obtain ⟨e, _, he⟩ := List.mem_flatMap.1 hu
  simp [Pk.cells] at he
  rcases he with rfl | rfl | rfl <;> rfl
theorem infoPacket : (Try.prog.info? 48).map (fun i => (i.zero, i.size, i.bytes)) = some (some (.agg #[.int .i64 0, .int .i64 0, .int .i64 0]), 3, 24) := by kernel_rfl

/-- A slice value that reads as these packets. -/
def PkS (w : World) (v : Value) (L : List Pk) : Prop :=
  (v = .slice none 0 0 ∧ L = []) ∨ ∃ ad c, v = .slice (some ad) L.length c ∧ (L ≠ [] → ad.spot = none) ∧ ∀ j u, (pks L)[j]? = some u → w.cell? (ad.add j) = some u
/-- So few that a copy of them takes no more than may be. -/
def few' (L : List Pk) : Prop := 24 * L.length ≤ 140737488351232
theorem PkS.chg {w w' : World} {v : Value} {L : List Pk} (h : PkS w v L) (c : Chg [] w w') : PkS w' v L := by
  rcases h with h | ⟨ad, k, h1, h0, h2⟩
  · exact .inl h
  · exact .inr ⟨ad, k, h1, h0, fun j u hu => c.cell (h2 j u hu) (by simp)⟩
theorem add0 (g j : Nat) : (⟨g, 0, none⟩ : Addr).add j = ⟨g, j, none⟩ := by unfold Addr.add; split <;> simp_all
theorem PkS.of_owns {w : World} {v : Value} {L : List Pk} (h : w.ownsRow 0 48 3 v L.length (pks L)) : PkS w v L := by
  rcases ownsRow_form h with ⟨rfl, h0⟩ | ⟨g, cap, rfl, _⟩
  · exact .inl ⟨rfl, List.eq_nil_of_length_eq_zero h0⟩
  · exact .inr ⟨⟨g, 0, none⟩, cap, rfl, fun _ => rfl, fun j u hu => by rw [add0]; exact ownsRow_cell h rfl hu⟩
/-- The cells of packet k. -/
theorem PkS.rows {w : World} {v : Value} {L : List Pk} (h : PkS w v L) (hne : L ≠ []) : ∃ g o c, v = .slice (some ⟨g, o, none⟩) L.length c ∧
    ∀ k x, L[k]? = some x → ∀ w', Chg [] w w' → w'.cell? ⟨g, o + k * 3, none⟩ = some (.int .i64 x.flow) ∧ w'.cell? ⟨g, o + k * 3 + 1, none⟩ = some (.int .i64 x.len) ∧ w'.cell? ⟨g, o + k * 3 + 2, none⟩ = some (.int .i64 x.mark) := by
  rcases h with ⟨_, h⟩ | ⟨ad, c, hv, hs, hc⟩
  · exact absurd h hne
  · have hspot := hs hne
    obtain ⟨g, o, s⟩ := ad
    simp only at hspot
    subst hspot
    refine ⟨g, o, c, hv, fun k x hx w' ch => ?_⟩
    have q := fun j u hu => ch.cell (hc _ u (pks_get L k x hx j u hu)) (by simp)
    have e : ∀ j, (⟨g, o, none⟩ : Addr).add (k * 3 + j) = ⟨g, o + k * 3 + j, none⟩ := fun j => by
      unfold Addr.add
      split
      · simp_all
      · simp; omega
    simp only [e] at q
    exact ⟨q 0 _ rfl, q 1 _ rfl, q 2 _ rfl⟩

theorem eqPk_any (a b : Pk) (w : World) : Calls Try.prog 64 #[a.val, b.val] w fun e w' => e = .returned (.bool (decide (a = b))) ∧ Chg [] w w' := by
  unfold Pk.val
  obtain ⟨a1, a2, a3⟩ := a
  obtain ⟨b1, b2, b3⟩ := b
  go_enter Try.func64, Try.ntmps64
  go_wp2
  all_goals (go_ret; exact ⟨ret_bool (by simp [*]), ((Chg.refl _ _).alloc _).alloc _⟩)
theorem take_eq_stepP {A B : List Pk} {k : Nat} {x : Pk} (h : A.take k = B.take k) (ha : A[k]? = some x) (hb : B[k]? = some x) : A.take (k + 1) = B.take (k + 1) := by
  rw [List.take_add_one, List.take_add_one, h, ha, hb]
theorem ne_of_atP {A B : List Pk} {k : Nat} {x y : Pk} (ha : A[k]? = some x) (hb : B[k]? = some y) (h : x ≠ y) : A ≠ B := fun e => by
  subst e
  rw [ha] at hb
  exact h (Option.some.inj hb)

set_option maxHeartbeats 1000000 in
/-- Two lists of one length. -/
theorem samePk_rows {w : World} {g h o q c d n : Nat} {A B : List Pk} (hA : A.length = n) (hB : B.length = n) (hn : n ≤ 140737488351232)
    (ca : ∀ k x, A[k]? = some x → ∀ w', Chg [] w w' → w'.cell? ⟨g, o + k * 3, none⟩ = some (.int .i64 x.flow) ∧ w'.cell? ⟨g, o + k * 3 + 1, none⟩ = some (.int .i64 x.len) ∧ w'.cell? ⟨g, o + k * 3 + 2, none⟩ = some (.int .i64 x.mark))
    (cb : ∀ k x, B[k]? = some x → ∀ w', Chg [] w w' → w'.cell? ⟨h, q + k * 3, none⟩ = some (.int .i64 x.flow) ∧ w'.cell? ⟨h, q + k * 3 + 1, none⟩ = some (.int .i64 x.len) ∧ w'.cell? ⟨h, q + k * 3 + 2, none⟩ = some (.int .i64 x.mark)) :
    Calls Try.prog 63 #[.slice (some ⟨g, o, none⟩) n c, .slice (some ⟨h, q, none⟩) n d, .func (.func 64) #[] #[]] w fun e w' => e = .returned (.bool (decide (A = B))) ∧ Chg [] w w' := by
  have CA := Lib.hid ca; have CB := Lib.hid cb; have HA := Lib.hid hA; have HB := Lib.hid hB
  clear ca cb hA hB
  go_enter Try.func63, Try.ntmps63
  go_wp2_with fail
  go_loopw [7] (fun i wr => ∃ k : Nat, k ≤ n ∧ i = .int .i64 k ∧ A.take k = B.take k ∧ Chg [] w wr) (fun i _ => n - (intOf i).toNat)
  case atStart => exact ⟨0, by omega, rfl, by simp, Chg.refl _ _⟩
  case round =>
    obtain ⟨k, hk, rfl, ht, hc⟩ := hrel
    have Ht := Lib.hid ht; have Hc := Lib.hid hc
    clear ht hc
    by_cases hlt : k < n
    · obtain ⟨x, hx⟩ : ∃ x, A[k]? = some x := ⟨_, List.getElem?_eq_getElem (by rw [HA.out]; exact hlt)⟩
      obtain ⟨y, hy⟩ : ∃ y, B[k]? = some y := ⟨_, List.getElem?_eq_getElem (by rw [HB.out]; exact hlt)⟩
      obtain ⟨a0, a1, a2⟩ := CA.out k x hx _ Hc.out
      obtain ⟨b0, b1, b2⟩ := CB.out k y hy _ Hc.out
      by_cases e : x = y
      · subst e
        have Hx := Lib.hid hx; have Hy := Lib.hid hy
        clear hx hy
        go_wp2_with fail
        go_still_tail 9, (by kernel_rfl)
        change wpList _ _ _ _ _ wr.drew
        go_wp2_with fail
        refine (eqPk_any x x _).mono ?_
        rintro e w1 ⟨he, hc1⟩
        rw [decide_eq_true rfl] at he
        subst he
        have C1 := Lib.hid hc1
        clear hc1 a0 a1 a2 b0 b1 b2
        go_wp2
        go_roundw
        case rel => exact ⟨k + 1, by omega, by go_num, take_eq_stepP Ht.out Hx.out Hy.out, (Hc.out.drew).quiet C1.out⟩
        case measure => simp [intOf]; omega
      · have Hx := Lib.hid hx; have Hy := Lib.hid hy; have He := Lib.hid e
        clear hx hy e
        go_wp2_with fail
        go_still_tail 9, (by kernel_rfl)
        change wpList _ _ _ _ _ wr.drew
        go_wp2_with fail
        refine (eqPk_any x y _).mono ?_
        rintro e w1 ⟨he, hc1⟩
        rw [decide_eq_false He.out] at he
        subst he
        have C1 := Lib.hid hc1
        clear hc1 a0 a1 a2 b0 b1 b2
        go_wp2
        go_ret
        exact ⟨ret_bool (decide_eq_false (ne_of_atP Hx.out Hy.out He.out)).symm, (Hc.out.drew).quiet C1.out⟩
    · go_wp2
      go_ret
      have e : k = n := by omega
      subst e
      have h1 : A = B := by
        have := Ht.out
        rwa [List.take_of_length_le (by rw [HA.out]; exact Nat.le_refl _), List.take_of_length_le (by rw [HB.out]; exact Nat.le_refl _)] at this
      exact ⟨ret_bool (decide_eq_true h1).symm, Hc.out⟩

/-- Two lists of two lengths. -/
theorem samePk_lens {w : World} {a b : Option Addr} {n m c d : Nat} (hne : ((n : Int) != (m : Int)) = true) (f : Value) :
    Calls Try.prog 63 #[.slice a n c, .slice b m d, f] w fun e w' => e = .returned (.bool false) ∧ w = w' := by
  go_enter Try.func63, Try.ntmps63
  go_wp2
  go_ret
  exact ⟨rfl, rfl⟩

/-- Two empty lists. -/
theorem samePk_none {w : World} {a b : Option Addr} {c d : Nat} (f : Value) :
    Calls Try.prog 63 #[.slice a 0 c, .slice b 0 d, f] w fun e w' => e = .returned (.bool true) ∧ w = w' := by
  go_enter Try.func63, Try.ntmps63
  go_wp2_with fail
  refine wp_loop_rounds 1 ?_
  rw [rounds_succ]
  go_wp2
  go_ret
  exact ⟨rfl, rfl⟩

theorem PkS.form {w : World} {v : Value} {L : List Pk} (h : PkS w v L) : ∃ oa c, v = .slice oa L.length c := by
  rcases h with ⟨rfl, rfl⟩ | ⟨ad, c, rfl, _⟩
  · exact ⟨none, 0, rfl⟩
  · exact ⟨some ad, c, rfl⟩
theorem samePk_any {w : World} {va vb : Value} {A B : List Pk} (ha : PkS w va A) (hb : PkS w vb B) (hla : few' A) :
    Calls Try.prog 63 #[va, vb, .func (.func 64) #[] #[]] w fun e w' => e = .returned (.bool (decide (A = B))) ∧ Chg [] w w' := by
  by_cases hl : A.length = B.length
  · by_cases h0 : A = []
    · subst h0
      have : B = [] := List.eq_nil_of_length_eq_zero (by simpa using hl.symm)
      subst this
      obtain ⟨oa, c, rfl⟩ := ha.form
      obtain ⟨ob, d, rfl⟩ := hb.form
      exact (samePk_none _).mono fun _ _ ⟨he, hw⟩ => ⟨by rw [he]; simp, hw ▸ Chg.refl _ _⟩
    · have h1 : B ≠ [] := fun e => h0 (by subst e; exact List.eq_nil_of_length_eq_zero (by simpa using hl))
      obtain ⟨g, o, c, rfl, ca⟩ := ha.rows h0
      obtain ⟨h, q, d, rfl, cb⟩ := hb.rows h1
      rw [← hl]
      exact samePk_rows rfl hl.symm (by unfold few' at hla; omega) ca cb
  · have hne : A ≠ B := fun e => hl (by rw [e])
    have hi : ((A.length : Int) != (B.length : Int)) = true := by simp; omega
    rw [decide_eq_false hne]
    obtain ⟨oa, c, rfl⟩ := ha.form
    obtain ⟨ob, d, rfl⟩ := hb.form
    exact (samePk_lens hi _).mono fun _ _ ⟨he, hw⟩ => ⟨he, hw ▸ Chg.refl _ _⟩

/-- Plain. -/
theorem plainPk_any {w : World} {va vb : Value} {A B : List Pk} (ha : PkS w va A) (hb : PkS w vb B) (hla : few' A) :
    Calls Try.prog 40 #[va, vb] w fun e w' => e = .returned (.bool (decide (A = B))) ∧ Chg [] w w' := by
  have HA := Lib.hid ha; have HB := Lib.hid hb
  clear ha hb
  go_enter Try.func40, Try.ntmps40
  go_wp2_with fail
  refine (samePk_any HA.out HB.out hla).mono ?_
  rintro e w1 ⟨rfl, hc⟩
  have C := Lib.hid hc
  clear hc
  go_wp2
  go_ret
  exact ⟨rfl, C.out⟩

set_option maxHeartbeats 400000 in
/-- slices.Clone of packets. -/
theorem clonePk_any {w : World} {v : Value} {L : List Pk} (h : PkS w v L) (hn : few' L) :
    Calls Try.prog 62 #[v] w (Cloned w 48 3 L.length (pks L)) := by
  obtain ⟨i0, hi, hz0, hz1, hz2⟩ := info_parts infoPacket
  unfold few' at hn
  rcases h with ⟨rfl, rfl⟩ | ⟨ad, cap, rfl, _, hc⟩
  · have e0 := fun w => Lib.run_eql_slice_nil (P := Try.prog) w 39 48 none 0 0 0 0 Try.underlying39
    have H : w.ownsRow 0 48 3 (.slice none 0 0) 0 [] := ⟨rfl, .inl ⟨rfl, rfl⟩⟩
    have H' := Lib.hid H
    clear H
    go_enter Try.func62, Try.ntmps62
    go_wp2
    go_ret
    exact ⟨_, rfl, H'.out, Chg.refl _ _, fun k hk => by simp [Value.ownBlock] at hk⟩
  · have e0 := fun w => Lib.run_eql_slice_nil (P := Try.prog) w 39 48 (some ad) L.length cap 0 0 Try.underlying39
    have hcell : ∀ j u, (pks L)[j]? = some u → (w.alloc (.cells #[] 48)).cell? (ad.add j) = some u := fun j u hu => ((Chg.refl [] w).alloc _).cell (hc j u hu) (by simp)
    have hown : (w.alloc (.cells #[] 48)).ownsRow 0 48 3 (.slice (some ⟨w.heap.size, 0, none⟩) 0 0) 0 [] := World.ownsRow_made w #[] 0 (by omega) (by unfold maxLen; omega) (by simp)
    have Hl := Lib.hid (pks_length L); have Hcell := Lib.hid hcell; have H1 := Lib.hid (pks_one L); have Hown := Lib.hid hown
    clear hc hcell hown
    generalize pks L = xs at *
    generalize L.length = n at *
    go_enter Try.func62, Try.ntmps62
    go_wp2_with (at_builtin; go_must (refine wpList_append_own_at _ rfl (.tmp 5) (.tmp 6) 39 rfl 0 48 i0 _ 3 24 Try.underlying39 hi hz0 hz1 hz2 rfl (by decide) (.slice (some ⟨w.heap.size, 0, none⟩) 0 0) 0 [] rfl Hown.out ad n cap xs rfl Hl.out Hcell.out H1.out (by unfold maxLen; omega) (by omega) (by omega) ?_); intro v' w1 hown' hgrow hnil hat)
    go_ret
    refine ⟨v', rfl, by simpa using hown', ((Chg.refl _ _).alloc _).grown hgrow (fun k hk => ?_), fun k hk => ?_⟩
    · simp [Value.ownBlock] at hk; subst hk; exact .inr (Nat.le_refl _)
    · rcases hat with h | h
      · rw [h] at hk; simp [Value.ownBlock] at hk; omega
      · rw [h] at hk; simp at hk; omega

/-! ### results -/
/-- What a call tells. -/
structure Rt where
  e : Int
  pk : List Pk
  n : Int
  v : Int
  deriving DecidableEq
def Rt.zero : Rt := ⟨0, [], 0, 0⟩
/-- As a value: its packets are the slice s. -/
@[reducible] def Rt.val (r : Rt) (s : Value) : Value := .agg #[.int .i64 r.e, s, .int .i64 r.n, .int .u64 r.v]
theorem Rt.eq_iff (a b : Rt) : a = b ↔ a.e = b.e ∧ a.n = b.n ∧ a.v = b.v ∧ a.pk = b.pk := by
  cases a; cases b; simp only [Rt.mk.injEq]; exact ⟨fun ⟨a, b, c, d⟩ => ⟨a, c, d, b⟩, fun ⟨a, c, d, b⟩ => ⟨a, b, c, d⟩⟩

set_option maxHeartbeats 1000000 in
theorem retEq_any {w : World} {a b : Rt} {va vb : Value} (ha : PkS w va a.pk) (hb : PkS w vb b.pk) (hla : few' a.pk) :
    Calls Try.prog 17 #[a.val va, b.val vb] w fun e w' => e = .returned (.bool (decide (a = b))) ∧ Chg [] w w' := by
  have c1 := (Row.new w [.int .i64 a.e, va, .int .i64 a.n, .int .u64 a.v] 41).alloc (.cells #[.int .i64 b.e, vb, .int .i64 b.n, .int .u64 b.v] 41)
  have C0 := Lib.hid (((Chg.refl [] w).alloc (.cells #[.int .i64 a.e, va, .int .i64 a.n, .int .u64 a.v] 41)).alloc (.cells #[.int .i64 b.e, vb, .int .i64 b.n, .int .u64 b.v] 41))
  have HA := Lib.hid ha; have HB := Lib.hid hb; have Hq := Lib.hid (Rt.eq_iff a b)
  clear ha hb c1
  by_cases h1 : a.e = b.e
  · by_cases h2 : a.n = b.n
    · by_cases h3 : a.v = b.v
      · have e1 : (a.e == b.e) = true := by simpa using h1
        have e2 : (a.n == b.n) = true := by simpa using h2
        have e3 : (a.v == b.v) = true := by simpa using h3
        have e4 : decide (a = b) = decide (a.pk = b.pk) := by rw [decide_eq_decide, Hq.out]; simp [h1, h2, h3]
        rw [e4]
        clear h1 h2 h3 e4
        go_enter Try.func17, Try.ntmps17
        go_wp2_with fail
        refine (plainPk_any (HA.out.chg C0.out) (HB.out.chg C0.out) hla).mono ?_
        rintro e w1 ⟨rfl, hc⟩
        have C := Lib.hid (C0.out.quiet hc)
        clear hc
        go_wp2
        go_ret
        exact ⟨rfl, C.out⟩
      · have e1 : (a.e == b.e) = true := by simpa using h1
        have e2 : (a.n == b.n) = true := by simpa using h2
        have e3 : (a.v == b.v) = false := by simpa using h3
        have e4 : decide (a = b) = false := by rw [decide_eq_false_iff_not, Hq.out]; simp [h1, h2, h3]
        rw [e4]
        clear h1 h2 h3 e4
        go_enter Try.func17, Try.ntmps17
        go_wp2
        go_ret
        exact ⟨rfl, C0.out⟩
    · have e1 : (a.e == b.e) = true := by simpa using h1
      have e2 : (a.n == b.n) = false := by simpa using h2
      have e4 : decide (a = b) = false := by rw [decide_eq_false_iff_not, Hq.out]; simp [h1, h2]
      rw [e4]
      clear h1 h2 e4
      go_enter Try.func17, Try.ntmps17
      go_wp2
      go_ret
      exact ⟨rfl, C0.out⟩
  · have e1 : (a.e == b.e) = false := by simpa using h1
    have e4 : decide (a = b) = false := by rw [decide_eq_false_iff_not, Hq.out]; simp [h1]
    rw [e4]
    clear h1 e4
    go_enter Try.func17, Try.ntmps17
    go_wp2
    go_ret
    exact ⟨rfl, C0.out⟩
end Go.Proofs.Ytjipjhmcpjffcac
