/- Both rings as one thing each; what a use does to both; the word that a use names. -/
import Derived.Test.YtjipjhmcpjffcadRingM
import Derived.Test.YtjipjhmcpjffcadRingR
set_option linter.unusedSimpArgs false
set_option linter.unusedVariables false
set_option maxRecDepth 20000
namespace Go.Proofs.Ytjipjhmcpjffcad
open Go Go.RowKit Go.Maps

theorem Does.star {P : Program} {As As' : List HA} {f : FuncId} {args : Array Value} {r : Value} (d : Does P As f args r As') : Does P [stars As] f args r [stars As'] :=
  Does.pack (As := As) (As' := As') (fun S w0 w h => by
    have h' : Scope S w0 w (As ++ []) := by simpa using h
    refine (d.call h').mono ?_
    rintro e w' ⟨he, hs⟩
    exact ⟨he, [], hs⟩)
/-- The numbers of one object are the same. -/
def Agr (obj : Int) (σ τ : MS) : Prop := ∀ l : Lc, l.a = obj → τ.num l = σ.num l
structure Rel (obj : Int) (σ τ σ' τ' : MS) : Prop where
  log : ∃ d : List Ev, d.length ≤ 1 ∧ σ'.log = σ.log ++ d ∧ τ'.log = τ.log ++ d
  agr : Agr obj σ' τ'
  left : ∀ l : Lc, l.a ≠ obj → σ'.num l = σ.num l
  right : ∀ l : Lc, l.a ≠ obj → τ'.num l = τ.num l
theorem Rel.refl {obj : Int} {σ τ : MS} (h : Agr obj σ τ) : Rel obj σ τ σ τ := ⟨⟨[], by simp, by simp, by simp⟩, h, fun _ _ => rfl, fun _ _ => rfl⟩
theorem Rel.put {obj : Int} {σ τ : MS} (h : Agr obj σ τ) (who k : Int) (l : Lc) : Rel obj σ τ (σ.put who k l) (τ.put who k l) := ⟨⟨[⟨who, k, l⟩], by simp, rfl, rfl⟩, h, fun _ _ => rfl, fun _ _ => rfl⟩
theorem Rel.pset {obj : Int} {σ τ : MS} (h : Agr obj σ τ) (who k : Int) (l : Lc) (v : Int) (ha : l.a = obj) : Rel obj σ τ ((σ.put who k l).set l v) ((τ.put who k l).set l v) := by
  refine ⟨⟨[⟨who, k, l⟩], by simp, rfl, rfl⟩, fun j hj => ?_, fun j hj => ?_, fun j hj => ?_⟩
  · show (if j = l then v else τ.num j) = (if j = l then v else σ.num j)
    rw [h j hj]
  · exact if_neg (fun e => hj (by rw [e]; exact ha))
  · exact if_neg (fun e => hj (by rw [e]; exact ha))
theorem Rel.turn {obj : Int} {σ τ : MS} (h : Agr obj σ τ) (who : Int) (how : Nat) (x : Int) : Rel obj σ τ (σ.turn who obj how x) (τ.turn who obj how x) := by
  unfold MS.turn MS.swap
  rw [h (wordL obj) rfl]
  split
  · split
    · exact Rel.pset h _ _ _ _ rfl
    · exact Rel.put h _ _ _
  · exact Rel.refl h
theorem Agr.turned {obj : Int} {σ τ : MS} (h : Agr obj σ τ) (how : Nat) (x : Int) : τ.turned obj how x = σ.turned obj how x := by
  unfold MS.turned
  rw [h (wordL obj) rfl]
theorem Rel.same {obj : Int} {σ σ' τ' : MS} (h : Rel obj σ σ σ' τ') : τ' = σ' ∧ σ'.log.length ≤ σ.log.length + 1 := by
  obtain ⟨⟨d, hd, h1, h2⟩, h3, h4, h5⟩ := h
  constructor
  · cases σ' with
    | mk l1 n1 =>
      cases τ' with
      | mk l2 n2 =>
        have e1 : l2 = l1 := by rw [show l2 = _ from h2, show l1 = _ from h1]
        have e2 : n2 = n1 := funext fun l => by
          by_cases a : l.a = obj
          · exact h3 l a
          · exact (h5 l a).trans (h4 l a).symm
        rw [e1, e2]
  · rw [h1, List.length_append]; omega

/-! ### word -/
def wordOf (u : Us) (v : Int) : Int := if u.n % 5 = 0 then u.m else if u.n % 5 = 1 then wpk (u.m % 4) (mod u.i 3) else v
theorem wordOf_u {u : Us} {v : Int} (hu : u.wf) (hv : U64 v) : U64 (wordOf u v) := by
  have h1 := mod_lt u.i (n := 3) (by omega)
  have m0 := hu.2.2.2.2.2.1
  unfold wordOf
  split
  · exact m0
  · split
    · exact wpk_u (by omega) (by omega) (by omega) (by omega)
    · exact hv
theorem mod_pure {v n : Int} (hn : 0 < n) (hm : n ≤ 4000000) : Pure Try.prog 20 #[.int .i64 v, .int .i64 n] (.int .i64 (mod v n)) := fun w =>
  (mod_any hn hm w).mono fun e w' ⟨he, hw⟩ => ⟨he, by subst hw; exact Chg.refl _ _⟩
theorem few_pure {v : Int} (hv : U64 v) : Pure Try.prog 47 #[.int .u64 v] (.int .u64 (few v)) := fun w =>
  (few_any hv w).mono fun e w' ⟨he, hw⟩ => ⟨he, by subst hw; exact Chg.refl _ _⟩
theorem rpack_pure {n s : Int} (h0 : 0 ≤ n) (h1 : n ≤ 2305843009213693951) (s0 : 0 ≤ s) (s1 : s ≤ 2) : Pure Try.prog 68 #[.int .u64 n, .int .i64 s] (.tuple #[.int .u64 (wpk n s), .bool true]) := fun w =>
  (rpack_same h0 h1 s0 s1 w).mono fun e w' ⟨he, hw⟩ => ⟨he, by subst hw; exact Chg.refl _ _⟩
set_option maxHeartbeats 2000000 in
theorem word17_does {q x' g' n : Nat} {obj : Int} {τ : MS} {cs : List Pk} {u : Us} (hu : u.wf) (hn : n ≤ 1000000) : Does Try.prog [stars [refA x' (n) (τ), rrb q x' obj g' cs.length, gb g' (cs)]] 48 #[ptr q, u.val] (.int .u64 (wordOf u (τ.num (wordL obj)))) [stars [refA x' (n + 1) (τ), rrb q x' obj g' cs.length, gb g' (cs)]] := Does.pack fun S w0 w h => by
  have s0 : Scope S w0 (w.alloc (.cells #[.int .i64 u.k, .int .i64 u.who, .int .i64 u.obj, .int .i64 u.i, .int .u64 u.n, .int .u64 u.m, .int .i64 u.flow, .int .i64 u.len, .int .i64 u.mark] 46)) ([refA x' n τ, rrb q x' obj g' cs.length, gb g' cs] ++ [box w.heap.size u.cells 46]) := h.box u.cells 46
  have h1 := mod_lt u.i (n := 3) (by omega)
  have m0 := hu.2.2.2.2.2.1.1; have m1 := hu.2.2.2.2.2.1.2; have n0 := hu.2.2.2.2.1.1; have n1 := hu.2.2.2.2.1.2
  have S0 := Lib.hid s0
  clear h s0 hu
  unfold Us.val
  go_enter Try.func48, Try.ntmps48
  have t1 : u.m.tmod 4 = u.m % 4 := by rw [Int.tmod_eq_emod_of_nonneg m0]
  have t2 : IntKind.u64.wrap (u.m % 4) = u.m % 4 := by rw [IntKind.wrap_u64]; omega
  by_cases a0 : u.n % 5 = 0
  · rw [show wordOf u (τ.num (wordL obj)) = u.m from if_pos a0]
    obtain ⟨c0, c1, c2, c3, c4, c5, c6, c7, c8⟩ := (S0.out.row (k := w.heap.size) (vs := u.cells) (t := 46) 3 rfl).cells9
    clear c0 c1 c2 c3 c6 c7 c8
    go_wp2
    go_ret
    exact Ends.mk [box w.heap.size u.cells 46] (by simpa using S0.out.up0 (Nat.le_succ n))
  · by_cases a1 : u.n % 5 = 1
    · rw [show wordOf u (τ.num (wordL obj)) = wpk (u.m % 4) (mod u.i 3) by unfold wordOf; rw [if_neg a0, if_pos a1]]
      obtain ⟨c0, c1, c2, c3, c4, c5, c6, c7, c8⟩ := (S0.out.row (k := w.heap.size) (vs := u.cells) (t := 46) 3 rfl).cells9
      clear c0 c1 c2 c3 c5 c6 c7 c8
      go_wp2_with fail
      generalize w.alloc _ = W at S0 c4 ⊢
      generalize w.heap.size = B0 at S0 c4 ⊢
      have ud : ∀ w', UseAt B0 u w' → (w'.cell? ⟨B0, 0, none⟩ = some (.int .i64 u.k) ∧ w'.cell? ⟨B0, 1, none⟩ = some (.int .i64 u.who) ∧ w'.cell? ⟨B0, 2, none⟩ = some (.int .i64 u.obj) ∧ w'.cell? ⟨B0, 3, none⟩ = some (.int .i64 u.i) ∧ w'.cell? ⟨B0, 4, none⟩ = some (.int .u64 u.n) ∧ w'.cell? ⟨B0, 5, none⟩ = some (.int .u64 u.m) ∧ w'.cell? ⟨B0, 6, none⟩ = some (.int .i64 u.flow) ∧ w'.cell? ⟨B0, 7, none⟩ = some (.int .i64 u.len) ∧ w'.cell? ⟨B0, 8, none⟩ = some (.int .i64 u.mark)) := fun _ h => h
      have u0 : UseAt B0 u W.drew := UseAt.of_row (S0.out.drew.row 3 rfl)
      have S0d := Lib.hid S0.out.drew
      clear c4
      go_region_held3 (UseAt B0 u) (assumption)
        (first
          | (go_at_call 20
             refine (mod_pure (v := u.i) (n := 3) (by omega) (by omega) _).mono ?_
             rintro e w1 ⟨rfl, hc⟩
             have S1 := Lib.hid (Scope.quiet (Hid.out (by assumption)) hc)
             have uq : UseAt B0 u w1 := UseAt.of_row (S1.out.row 3 rfl)
             clear hc)
          | (go_at_call 68
             refine (rpack_pure (n := u.m % 4) (s := mod u.i 3) (by omega) (by omega) (by omega) (by omega) _).mono ?_
             rintro e w2 ⟨rfl, hc⟩
             have S2 := Lib.hid (Scope.quiet (Hid.out (by assumption)) hc)
             have uq : UseAt B0 u w2 := UseAt.of_row (S2.out.row 3 rfl)
             clear hc))
      go_wp2
      go_ret
      exact Ends.mk [box B0 u.cells 46] (by simpa using S2.out.up0 (Nat.le_succ n))
    · rw [show wordOf u (τ.num (wordL obj)) = τ.num (wordL obj) by unfold wordOf; rw [if_neg a0, if_neg a1]]
      obtain ⟨c0, c1, c2, c3, c4, c5, c6, c7, c8⟩ := (S0.out.row (k := w.heap.size) (vs := u.cells) (t := 46) 3 rfl).cells9
      clear c0 c1 c2 c3 c5 c6 c7 c8
      go_wp2_with fail
      generalize w.alloc _ = W at S0 c4 ⊢
      generalize w.heap.size = B0 at S0 c4 ⊢
      have zm : W.drew.cell? ⟨q, 0, none⟩ = some (ptr x') := (S0.out.row 1 rfl).cell rfl
      have zo : W.drew.cell? ⟨q, 1, none⟩ = some (.int .i64 obj) := (S0.out.row 1 rfl).cell rfl
      have S0d := Lib.hid S0.out.drew
      clear c4
      go_region_held3 (fun w' => w'.cell? ⟨q, 0, none⟩ = some (ptr x') ∧ w'.cell? ⟨q, 1, none⟩ = some (.int .i64 obj)) (refine ⟨?_, ?_⟩ <;> assumption)
        (first
          | (go_at_call 31
             refine ((rloc_pure 11 obj 0).at (Hid.out (by assumption))).mono ?_
             rintro e wq ⟨rfl, sq⟩
             have zm : wq.cell? ⟨q, 0, none⟩ = some (ptr x') := (sq.row 1 rfl).cell rfl
             have zo : wq.cell? ⟨q, 1, none⟩ = some (.int .i64 obj) := (sq.row 1 rfl).cell rfl
             have Hq := Lib.hid sq
             clear sq)
          | (go_at_call 32
             refine ((rpeek_does (wordL obj) hn).at0 Hq.out).mono ?_
             rintro e wz ⟨rfl, sq⟩
             have zm : wz.cell? ⟨q, 0, none⟩ = some (ptr x') := (sq.row 1 rfl).cell rfl
             have zo : wz.cell? ⟨q, 1, none⟩ = some (.int .i64 obj) := (sq.row 1 rfl).cell rfl
             have Hz := Lib.hid sq
             clear sq))
      go_wp2
      go_ret
      exact Ends.mk [box B0 u.cells 46] (by simpa using Hz.out)
end Go.Proofs.Ytjipjhmcpjffcad
