/- step of layer 17: one use of a ring and of the reference's. -/
import Derived.Test.YtjipjhmcpjffcadRingS
set_option linter.unusedSimpArgs false
set_option linter.unusedVariables false
set_option maxRecDepth 20000
namespace Go.Proofs.Ytjipjhmcpjffcad
open Go Go.RowKit Go.Maps
def Stepped17 (S : List Nat) (w0 : World) (Bs : List HA) (p m g q x' g' n : Nat) (obj : Int) (cs : List Pk) (σ τ : MS) (e : Ending) (w' : World) : Prop :=
  e = .returned (.bool true) ∧ ∃ (σ' τ' : MS) (ds : List Pk), ds.length = cs.length ∧ Rel obj σ τ σ' τ' ∧ Scope S w0 w' (stars [memA m σ', rb p m obj g cs.length, gb g ds] :: stars [refA x' (n + 2) τ', rrb q x' obj g' cs.length, gb g' ds] :: Bs)
theorem refs_up {q x' g' n n' l : Nat} {obj : Int} {τ : MS} {ds : List Pk} {S : List Nat} {w0 w : World} {X : HA} {Bs : List HA} (h : Scope S w0 w (X :: stars [refA x' n τ, rrb q x' obj g' l, gb g' ds] :: Bs)) (hn : n ≤ n') : Scope S w0 w (X :: stars [refA x' n' τ, rrb q x' obj g' l, gb g' ds] :: Bs) :=
  (Scope.turn1 (B := stars [refA x' n' τ, rrb q x' obj g' l, gb g' ds]) h.swap2 (fun w fp hh => by
    obtain ⟨f, g, ⟨kv, k1, k2⟩, h2, h3, h4⟩ := hh
    exact ⟨f, g, ⟨kv, Nat.le_trans k1 hn, k2⟩, h2, h3, h4⟩)).swap2
theorem Scope.stepped17 {S : List Nat} {w0 w' : World} {Bs : List HA} {p m g q x' g' n n' : Nat} {obj : Int} {cs ds : List Pk} {σ τ σ' τ' : MS} {b1 : HA} (h : Scope S w0 w' (stars [memA m σ', rb p m obj g cs.length, gb g ds] :: stars [refA x' n' τ', rrb q x' obj g' cs.length, gb g' ds] :: (Bs ++ [b1]))) (hn : n' ≤ n + 2) (hl : ds.length = cs.length) (hr : Rel obj σ τ σ' τ') :
    Stepped17 S w0 Bs p m g q x' g' n obj cs σ τ (.returned (.bool true)) w' :=
  ⟨rfl, σ', τ', ds, hl, hr, refs_up (Scope.drop (As := stars [memA m σ', rb p m obj g cs.length, gb g ds] :: stars [refA x' n' τ', rrb q x' obj g' cs.length, gb g' ds] :: Bs) (Bs := [b1]) h) hn⟩
theorem ring_u64 {S : List Nat} {w0 w : World} {Bs : List HA} {p m g l : Nat} {obj : Int} {σ : MS} {cs : List Pk} (h : Scope S w0 w (stars [memA m σ, rb p m obj g l, gb g cs] :: Bs)) {j : Lc} (hl : j.wf) : U64 (σ.num j) := by
  obtain ⟨f, hm, _⟩ := (Scope.open1 h).get 0 rfl
  exact MemAt.num_u64 hm hl

def fullB (x hd : Int) (l : Nat) : Bool := decide (hd ≤ wcnt x ∧ (l : Int) ≤ wcnt x - hd)
theorem rfullB_does {p m g : Nat} {obj : Int} {cs : List Pk} {x hd : Int} (hx : U64 x) (hh : U64 hd) (c8 : cs.length ≤ 1000) : Does Try.prog [rb p m obj g cs.length] 14 #[ptr p, .int .u64 x, .int .u64 hd] (.bool (fullB x hd cs.length)) [rb p m obj g cs.length] := rfull_does hx hh c8
theorem rrfullB_does {q x' g : Nat} {obj : Int} {cs : List Pk} {x hd : Int} (hx : U64 x) (hh : U64 hd) (c8 : cs.length ≤ 1000) : Does Try.prog [rrb q x' obj g cs.length] 58 #[ptr q, .int .u64 x, .int .u64 hd] (.bool (fullB x hd cs.length)) [rrb q x' obj g cs.length] := rrfull_does hx hh c8
theorem mid3 {S : List Nat} {w0 w : World} {A B C : HA} {Cs : List HA} : Scope S w0 w ([A, B, C] ++ Cs) → Scope S w0 w ([B] ++ ([A, C] ++ Cs)) := fun h => Scope.swap (As := [A]) (Bs := [B]) (Cs := C :: Cs) h
theorem mid3' {S : List Nat} {w0 w : World} {A B C : HA} {Cs : List HA} : Scope S w0 w ([B] ++ ([A, C] ++ Cs)) → Scope S w0 w ([A, B, C] ++ Cs) := fun h => Scope.swap (As := [B]) (Bs := [A]) (Cs := C :: Cs) h
theorem Does.full0 {P : Program} {f : FuncId} {args : Array Value} {r : Value} {X : HA} {m g : Nat} {σ : MS} {cs : List Pk} {S : List Nat} {w0 w : World} {Bs : List HA} (d : Does P [X] f args r [X]) (h : Scope S w0 w (stars [memA m σ, X, gb g cs] :: Bs)) : Calls P f args w fun e w' => e = .returned r ∧ Scope S w0 w' (stars [memA m σ, X, gb g cs] :: Bs) :=
  (d.call (mid3 h.open1)).mono fun _ _ ⟨he, hs⟩ => ⟨he, Scope.shut1 (mid3' hs)⟩
theorem Does.full1 {P : Program} {f : FuncId} {args : Array Value} {r : Value} {X Y : HA} {m n g : Nat} {τ : MS} {cs : List Pk} {S : List Nat} {w0 w : World} {Bs : List HA} (d : Does P [X] f args r [X]) (h : Scope S w0 w (Y :: stars [refA m n τ, X, gb g cs] :: Bs)) : Calls P f args w fun e w' => e = .returned r ∧ Scope S w0 w' (Y :: stars [refA m n τ, X, gb g cs] :: Bs) :=
  (d.call (mid3 h.swap2.open1)).mono fun _ _ ⟨he, hs⟩ => ⟨he, (Scope.shut1 (mid3' hs)).swap2⟩

set_option maxHeartbeats 16000000 in
set_option maxRecDepth 20000 in
theorem step17_any {S : List Nat} {w0 w : World} {Bs : List HA} {p m g q x' g' n : Nat} {obj : Int} {cs : List Pk} {σ τ : MS} {u : Us} (h : Scope S w0 w (stars [memA m (σ), rb p m obj g cs.length, gb g (cs)] :: stars [refA x' (n) (τ), rrb q x' obj g' cs.length, gb g' (cs)] :: Bs)) (ha : Agr obj σ τ) (ho : I64 obj) (hu : u.wf) (l0 : 0 < cs.length) (l8 : cs.length ≤ 8) (hn : n ≤ 800000) (hl : σ.log.length ≤ 900000) (hm : τ.log.length ≤ 900000) :
    Calls Try.prog 29 #[ptr p, ptr q, u.val] w (Stepped17 S w0 Bs p m g q x' g' n obj cs σ τ) := by
  have s0 : Scope S w0 (w.alloc (.cells #[.int .i64 u.k, .int .i64 u.who, .int .i64 u.obj, .int .i64 u.i, .int .u64 u.n, .int .u64 u.m, .int .i64 u.flow, .int .i64 u.len, .int .i64 u.mark] 46)) (stars [memA m (σ), rb p m obj g cs.length, gb g (cs)] :: stars [refA x' (n) (τ), rrb q x' obj g' cs.length, gb g' (cs)] :: (Bs ++ [box w.heap.size u.cells 46])) := h.box u.cells 46
  have hfw := few_u hu.2.2.2.2.1
  have hwo := wordOf_u hu (show U64 (τ.num (wordL obj)) from by rw [ha _ rfl]; exact ring_u64 h (wordL_wf ho))
  have aw := ha (wordL obj) rfl; have ah := ha (headL obj) rfl
  have af : ∀ c : Nat, τ.num (flagL obj c) = σ.num (flagL obj c) := fun c => ha _ rfl
  have S0 := Lib.hid s0; have Ha := Lib.hid ha; have Ho := Lib.hid ho; have Hu := Lib.hid hu; have Hx := Lib.hid hwo; have Hf := Lib.hid hfw; have Aw := Lib.hid aw; have Ah := Lib.hid ah; have Af := Lib.hid af
  have L8 := Lib.hid l8; have L0 := Lib.hid l0
  clear h s0 ha ho hu hwo hfw aw ah af l8 l0
  unfold Us.val
  go_enter Try.func29, Try.ntmps29
  go_wp2_with fail
  generalize w.alloc _ = W at S0 ⊢
  generalize w.heap.size = B0 at S0 ⊢
  have ud : ∀ w', UseAt B0 u w' → (w'.cell? ⟨B0, 0, none⟩ = some (.int .i64 u.k) ∧ w'.cell? ⟨B0, 1, none⟩ = some (.int .i64 u.who) ∧ w'.cell? ⟨B0, 2, none⟩ = some (.int .i64 u.obj) ∧ w'.cell? ⟨B0, 3, none⟩ = some (.int .i64 u.i) ∧ w'.cell? ⟨B0, 4, none⟩ = some (.int .u64 u.n) ∧ w'.cell? ⟨B0, 5, none⟩ = some (.int .u64 u.m) ∧ w'.cell? ⟨B0, 6, none⟩ = some (.int .i64 u.flow) ∧ w'.cell? ⟨B0, 7, none⟩ = some (.int .i64 u.len) ∧ w'.cell? ⟨B0, 8, none⟩ = some (.int .i64 u.mark)) := fun _ h => h
  have u0 : UseAt B0 u W.drew := UseAt.of_row (S0.out.drew.rowm (by simp))
  have S0d := Lib.hid S0.out.drew
  go_region_held3 (UseAt B0 u) (assumption)
    (first
      | (go_at_call 46
         refine (by_any u _).mono ?_
         rintro e w1 ⟨rfl, hc⟩
         have S1 := Lib.hid (Scope.quiet (Hid.out (by assumption)) hc)
         have uq : UseAt B0 u w1 := UseAt.of_row (S1.out.rowm (by simp))
         clear hc)
      | (go_at_call 47
         refine (few_pure Hu.out.2.2.2.2.1 _).mono ?_
         rintro e w2 ⟨rfl, hc⟩
         have S2 := Lib.hid (Scope.quiet (Hid.out (by assumption)) hc)
         have uq : UseAt B0 u w2 := UseAt.of_row (S2.out.rowm (by simp))
         clear hc)
      | (go_at_call 48
         refine ((word17_does (q := q) (x' := x') (g' := g') (n := n) (obj := obj) (τ := τ) (cs := cs) Hu.out (by omega)).at1 (Hid.out (by assumption))).mono ?_
         rintro e w3 ⟨rfl, sq⟩
         have S3 := Lib.hid sq
         have uq : UseAt B0 u w3 := UseAt.of_row (S3.out.rowm (by simp))
         clear sq))
  generalize wordOf u (τ.num (wordL obj)) = X at Hx ⊢
  generalize few u.n = Y at Hf ⊢
  go_wp2_with fail
  refine (what_any u (n := 14) (by omega) (by omega) _).mono ?_
  rintro e w4' ⟨he, hc⟩
  have S4' := Lib.hid (S3.out.quiet hc)
  clear hc
  obtain ⟨w4, hw4⟩ : ∃ w4, w4 = w4' := ⟨_, rfl⟩
  subst hw4
  have S4 := S4'
  clear S4' S0 S0d u0
  have hm' := mod_lt u.k (n := 14) (by omega)
  have hv : u.what 14 = 0 ∨ u.what 14 = 1 ∨ u.what 14 = 2 ∨ u.what 14 = 3 ∨ u.what 14 = 4 ∨ u.what 14 = 5 ∨ u.what 14 = 6 ∨ u.what 14 = 7 ∨ u.what 14 = 8 ∨ u.what 14 = 9 ∨ u.what 14 = 10 ∨ u.what 14 = 11 ∨ u.what 14 = 12 ∨ u.what 14 = 13 := by unfold Us.what; omega
  clear hm'
  have h1000 : cs.length ≤ 1000 := by have := L8.out; omega
  rcases hv with hv | hv | hv | hv | hv | hv | hv | hv | hv | hv | hv | hv | hv | hv
  · rw [hv] at he
    subst he
    clear hv
    go_wp2_with fail
    refine ((rword_does u.by Ho.out (by omega)).star.at0 S4.out).mono ?_
    rintro e w5 ⟨rfl, s5⟩
    have S5 := Lib.hid s5
    clear s5
    go_wp2_with fail
    refine ((rrword_does u.by (by omega) (by omega)).star.at1 S5.out).mono ?_
    rintro e w6 ⟨he, s6⟩
    rw [Aw.out] at he
    subst he
    have S6 := Lib.hid s6
    clear s6
    go_wp2
    go_ret
    exact S6.out.stepped17 (by omega) (by simp) (Rel.put Ha.out _ _ _)
  · rw [hv] at he
    subst he
    clear hv
    go_wp2_with fail
    refine ((rhead_does u.by Ho.out (by omega)).star.at0 S4.out).mono ?_
    rintro e w5 ⟨rfl, s5⟩
    have S5 := Lib.hid s5
    clear s5
    go_wp2_with fail
    refine ((rrhead_does u.by (by omega) (by omega)).star.at1 S5.out).mono ?_
    rintro e w6 ⟨he, s6⟩
    rw [Ah.out] at he
    subst he
    have S6 := Lib.hid s6
    clear s6
    go_wp2
    go_ret
    exact S6.out.stepped17 (by omega) (by simp) (Rel.put Ha.out _ _ _)
  · rw [hv] at he
    subst he
    clear hv
    go_wp2_with fail
    refine ((rclaim_does u.by X Hx.out Ho.out (by omega)).star.at0 S4.out).mono ?_
    rintro e w5 ⟨rfl, s5⟩
    have S5 := Lib.hid s5
    clear s5
    go_wp2_with fail
    refine ((rrturn0_does u.by X Hx.out (by omega) (by omega)).star.at1 S5.out).mono ?_
    rintro e w6 ⟨he, s6⟩
    rw [Ha.out.turned] at he
    subst he
    have S6 := Lib.hid s6
    clear s6
    go_wp2
    go_ret
    exact S6.out.stepped17 (by omega) (by simp) (Rel.turn Ha.out _ _ _)
  · rw [hv] at he
    subst he
    clear hv
    go_wp2_with fail
    refine ((rclaim_does u.by X Hx.out Ho.out (by omega)).star.at0 S4.out).mono ?_
    rintro e w5 ⟨rfl, s5⟩
    have S5 := Lib.hid s5
    clear s5
    go_wp2_with fail
    refine ((rrturn0_does u.by X Hx.out (by omega) (by omega)).star.at1 S5.out).mono ?_
    rintro e w6 ⟨he, s6⟩
    rw [Ha.out.turned] at he
    subst he
    have S6 := Lib.hid s6
    clear s6
    go_wp2
    go_ret
    exact S6.out.stepped17 (by omega) (by simp) (Rel.turn Ha.out _ _ _)
  · rw [hv] at he
    subst he
    clear hv
    go_wp2_with fail
    refine ((rclaim_does u.by X Hx.out Ho.out (by omega)).star.at0 S4.out).mono ?_
    rintro e w5 ⟨rfl, s5⟩
    have S5 := Lib.hid s5
    clear s5
    go_wp2_with fail
    refine ((rrturn0_does u.by X Hx.out (by omega) (by omega)).star.at1 S5.out).mono ?_
    rintro e w6 ⟨he, s6⟩
    rw [Ha.out.turned] at he
    subst he
    have S6 := Lib.hid s6
    clear s6
    go_wp2
    go_ret
    exact S6.out.stepped17 (by omega) (by simp) (Rel.turn Ha.out _ _ _)
  · rw [hv] at he
    subst he
    clear hv
    go_wp2_with fail
    refine ((rrest_does u.by X Hx.out Ho.out (by omega)).star.at0 S4.out).mono ?_
    rintro e w5 ⟨rfl, s5⟩
    have S5 := Lib.hid s5
    clear s5
    go_wp2_with fail
    refine ((rrturn1_does u.by X Hx.out (by omega) (by omega)).star.at1 S5.out).mono ?_
    rintro e w6 ⟨he, s6⟩
    rw [Ha.out.turned] at he
    subst he
    have S6 := Lib.hid s6
    clear s6
    go_wp2
    go_ret
    exact S6.out.stepped17 (by omega) (by simp) (Rel.turn Ha.out _ _ _)
  · rw [hv] at he
    subst he
    clear hv
    go_wp2_with fail
    refine ((rshut_does u.by X Hx.out Ho.out (by omega)).star.at0 S4.out).mono ?_
    rintro e w5 ⟨rfl, s5⟩
    have S5 := Lib.hid s5
    clear s5
    go_wp2_with fail
    refine ((rrturn2_does u.by X Hx.out (by omega) (by omega)).star.at1 S5.out).mono ?_
    rintro e w6 ⟨he, s6⟩
    rw [Ha.out.turned] at he
    subst he
    have S6 := Lib.hid s6
    clear s6
    go_wp2
    go_ret
    exact S6.out.stepped17 (by omega) (by simp) (Rel.turn Ha.out _ _ _)
  · rw [hv] at he
    subst he
    clear hv
    obtain ⟨c0, c1, c2, c3, c4, c5, c6, c7, c8⟩ := (S4.out.rowm (k := B0) (vs := u.cells) (t := 46) (by simp)).cells9
    clear c0 c1 c2 c3 c4 c5
    go_wp2_with fail
    refine ((rput_does u.by Y ⟨u.flow, u.len, u.mark⟩ Ho.out (by omega) Hf.out L0.out h1000).star.at0 S4.out).mono ?_
    rintro e w5 ⟨rfl, s5⟩
    have S5 := Lib.hid s5
    clear s5
    clear c6 c7 c8
    obtain ⟨c0, c1, c2, c3, c4, c5, c6, c7, c8⟩ := (S5.out.rowm (k := B0) (vs := u.cells) (t := 46) (by simp)).cells9
    clear c0 c1 c2 c3 c4 c5
    go_wp2_with fail
    refine ((rrput_does u.by Y ⟨u.flow, u.len, u.mark⟩ (by omega) (by omega) Hf.out L0.out h1000).star.at1 S5.out).mono ?_
    rintro e w6 ⟨rfl, s6⟩
    have S6 := Lib.hid s6
    clear s6 c6 c7 c8
    have um := Hu.out.2.2.2.2.2.1
    have Um := Lib.hid um
    clear um
    have T0 := Lib.hid S6.out.drew
    have r0 : w6.drew.cell? ⟨B0, 5, none⟩ = some (.int .u64 u.m) := (S6.out.drew.rowm (k := B0) (vs := u.cells) (t := 46) (by simp)).cell rfl
    go_wp2_with fail
    refine wp_region_any (by kernel_rfl) ?_
    change wpAny _ _ _ _ _ _ _ (World.drew _)
    refine wpAny_of_U (S := fun w' => w'.cell? ⟨B0, 5, none⟩ = some (.int .u64 u.m)) (U := [0, 1, 2, 3, 4, 5, 6, 7, 8, 9, 10, 11, 12, 13, 14, 15, 16, 17, 18, 19, 20, 21]) _ _ _ _ ?_
    refine wpAnyU_take (i := 0) (v := ?_) rfl (by kernel_rfl) (by kernel_rfl) (by kernel_rfl) (by kernel_rfl) (fun _ _ _ h => h) (Or.inl ⟨by rfl, ?_⟩) r0 ?_
    rotate_left 1
    · (intro w' hS; (try dsimp only at hS); (try simp only [List.getElem_toArray, List.getElem_cons_succ, List.getElem_cons_zero]); go_simp; (try with_reducible rfl))
    try simp only [Act.put, List.getElem_toArray, List.getElem_cons_succ, List.getElem_cons_zero, List.setIfInBounds_toArray, List.set_cons_zero, List.set_cons_succ]
    refine wpAnyU_take (i := 1) (v := ?_) rfl (by kernel_rfl) (by kernel_rfl) (by kernel_rfl) (by kernel_rfl) (fun _ _ _ h => h) (Or.inl ⟨by rfl, ?_⟩) r0 ?_
    rotate_left 1
    · (intro w' hS; (try dsimp only at hS); (try simp only [List.getElem_toArray, List.getElem_cons_succ, List.getElem_cons_zero]); go_simp; (try with_reducible rfl))
    try simp only [Act.put, List.getElem_toArray, List.getElem_cons_succ, List.getElem_cons_zero, List.setIfInBounds_toArray, List.set_cons_zero, List.set_cons_succ]
    refine wpAnyU_take (i := 2) (v := ?_) rfl (by kernel_rfl) (by kernel_rfl) (by kernel_rfl) (by kernel_rfl) (fun _ _ _ h => h) (Or.inl ⟨by rfl, ?_⟩) r0 ?_
    rotate_left 1
    · (intro w' hS; (try dsimp only at hS); (try simp only [List.getElem_toArray, List.getElem_cons_succ, List.getElem_cons_zero]); go_simp; (try with_reducible rfl))
    try simp only [Act.put, List.getElem_toArray, List.getElem_cons_succ, List.getElem_cons_zero, List.setIfInBounds_toArray, List.set_cons_zero, List.set_cons_succ]
    refine wpAnyU_take (i := 3) (v := ?_) rfl (by kernel_rfl) (by kernel_rfl) (by kernel_rfl) (by kernel_rfl) (fun _ _ _ h => h) (Or.inl ⟨by rfl, ?_⟩) r0 ?_
    rotate_left 1
    · (intro w' hS; (try dsimp only at hS); (try simp only [List.getElem_toArray, List.getElem_cons_succ, List.getElem_cons_zero]); go_simp; (try with_reducible rfl))
    try simp only [Act.put, List.getElem_toArray, List.getElem_cons_succ, List.getElem_cons_zero, List.setIfInBounds_toArray, List.set_cons_zero, List.set_cons_succ]
    refine wpAnyU_take (i := 5) (v := ?_) rfl (by kernel_rfl) (by kernel_rfl) (by kernel_rfl) (by kernel_rfl) (fun _ _ _ h => h) (Or.inl ⟨by rfl, ?_⟩) r0 ?_
    rotate_left 1
    · (intro w' hS; (try dsimp only at hS); (try simp only [List.getElem_toArray, List.getElem_cons_succ, List.getElem_cons_zero]); go_simp; (try with_reducible rfl))
    try simp only [Act.put, List.getElem_toArray, List.getElem_cons_succ, List.getElem_cons_zero, List.setIfInBounds_toArray, List.set_cons_zero, List.set_cons_succ]
    refine wpAnyU_take (i := 6) (v := ?_) rfl (by kernel_rfl) (by kernel_rfl) (by kernel_rfl) (by kernel_rfl) (fun _ _ _ h => h) (Or.inl ⟨by rfl, ?_⟩) r0 ?_
    rotate_left 1
    · (intro w' hS; (try dsimp only at hS); (try simp only [List.getElem_toArray, List.getElem_cons_succ, List.getElem_cons_zero]); go_simp; (try with_reducible rfl))
    try simp only [Act.put, List.getElem_toArray, List.getElem_cons_succ, List.getElem_cons_zero, List.setIfInBounds_toArray, List.set_cons_zero, List.set_cons_succ]
    refine wpAnyU_take (i := 7) (v := ?_) rfl (by kernel_rfl) (by kernel_rfl) (by kernel_rfl) (by kernel_rfl) (fun _ _ _ h => h) (Or.inl ⟨by rfl, ?_⟩) r0 ?_
    rotate_left 1
    · (intro w' hS; (try dsimp only at hS); (try simp only [List.getElem_toArray, List.getElem_cons_succ, List.getElem_cons_zero]); go_simp; (try with_reducible rfl))
    try simp only [Act.put, List.getElem_toArray, List.getElem_cons_succ, List.getElem_cons_zero, List.setIfInBounds_toArray, List.set_cons_zero, List.set_cons_succ]
    refine wpAnyU_take (i := 8) (v := ?_) rfl (by kernel_rfl) (by kernel_rfl) (by kernel_rfl) (by kernel_rfl) (fun _ _ _ h => h) (Or.inl ⟨by rfl, ?_⟩) r0 ?_
    rotate_left 1
    · (intro w' hS; (try dsimp only at hS); (try simp only [List.getElem_toArray, List.getElem_cons_succ, List.getElem_cons_zero]); go_simp; (try with_reducible rfl))
    try simp only [Act.put, List.getElem_toArray, List.getElem_cons_succ, List.getElem_cons_zero, List.setIfInBounds_toArray, List.set_cons_zero, List.set_cons_succ]
    refine wpAnyU_all (rs := [4]) (by kernel_rfl) (by simp) (fun i hi => ?_)
    obtain rfl : i = 4 := by simpa using hi
    refine wpOpU_stepG rfl (by rfl) (fun K hK => ?_)
    go_simp
    refine ((rfullB_does (cs := cs) (x := X) (hd := u.m) Hx.out Um.out h1000).full0 T0.out).mono ?_
    rintro e v1 ⟨rfl, sq⟩
    have r1 : v1.cell? ⟨B0, 5, none⟩ = some (.int .u64 u.m) := (sq.rowm (k := B0) (vs := u.cells) (t := 46) (by simp)).cell rfl
    have T1 := Lib.hid sq
    refine hK _ _ ⟨fun _ => r1, ?_⟩
    clear hK K sq T0 r0
    try simp only [Act.put, List.getElem_toArray, List.getElem_cons_succ, List.getElem_cons_zero, List.setIfInBounds_toArray, List.set_cons_zero, List.set_cons_succ]
    refine wpAnyU_all (rs := [9]) (by kernel_rfl) (by simp) (fun i hi => ?_)
    obtain rfl : i = 9 := by simpa using hi
    refine wpOpU_stepG rfl (by rfl) (fun K hK => ?_)
    go_simp
    refine ((rrfullB_does (cs := cs) (x := X) (hd := u.m) Hx.out Um.out h1000).full1 T1.out).mono ?_
    rintro e v2 ⟨rfl, sq⟩
    have r2 : v2.cell? ⟨B0, 5, none⟩ = some (.int .u64 u.m) := (sq.rowm (k := B0) (vs := u.cells) (t := 46) (by simp)).cell rfl
    have T2 := Lib.hid sq
    refine hK _ _ ⟨fun _ => r2, ?_⟩
    clear hK K sq T1 r1
    try simp only [Act.put, List.getElem_toArray, List.getElem_cons_succ, List.getElem_cons_zero, List.setIfInBounds_toArray, List.set_cons_zero, List.set_cons_succ]
    refine wpAnyU_take (i := 10) (v := ?_) rfl (by kernel_rfl) (by kernel_rfl) (by kernel_rfl) (by kernel_rfl) (fun _ _ _ h => h) (Or.inl ⟨by rfl, ?_⟩) r2 ?_
    rotate_left 1
    · (intro w' hS; (try dsimp only at hS); (try simp only [List.getElem_toArray, List.getElem_cons_succ, List.getElem_cons_zero]); go_simp; (try with_reducible rfl))
    try simp only [Act.put, List.getElem_toArray, List.getElem_cons_succ, List.getElem_cons_zero, List.setIfInBounds_toArray, List.set_cons_zero, List.set_cons_succ]
    refine wpAnyU_take (i := 11) (v := ?_) rfl (by kernel_rfl) (by kernel_rfl) (by kernel_rfl) (by kernel_rfl) (fun _ _ _ h => h) (Or.inl ⟨by rfl, ?_⟩) r2 ?_
    rotate_left 1
    · (intro w' hS; (try dsimp only at hS); (try simp only [List.getElem_toArray, List.getElem_cons_succ, List.getElem_cons_zero]); go_simp; (try with_reducible rfl))
    try simp only [Act.put, List.getElem_toArray, List.getElem_cons_succ, List.getElem_cons_zero, List.setIfInBounds_toArray, List.set_cons_zero, List.set_cons_succ]
    refine wpAnyU_take (i := 12) (v := ?_) rfl (by kernel_rfl) (by kernel_rfl) (by kernel_rfl) (by kernel_rfl) (fun _ _ _ h => h) (Or.inl ⟨by rfl, ?_⟩) r2 ?_
    rotate_left 1
    · (intro w' hS; (try dsimp only at hS); (try simp only [List.getElem_toArray, List.getElem_cons_succ, List.getElem_cons_zero]); go_simp; (try with_reducible rfl))
    try simp only [Act.put, List.getElem_toArray, List.getElem_cons_succ, List.getElem_cons_zero, List.setIfInBounds_toArray, List.set_cons_zero, List.set_cons_succ]
    refine wpAnyU_take (i := 13) (v := ?_) rfl (by kernel_rfl) (by kernel_rfl) (by kernel_rfl) (by kernel_rfl) (fun _ _ _ h => h) (Or.inl ⟨by rfl, ?_⟩) r2 ?_
    rotate_left 1
    · (intro w' hS; (try dsimp only at hS); (try simp only [List.getElem_toArray, List.getElem_cons_succ, List.getElem_cons_zero]); go_simp; (try with_reducible rfl))
    try simp only [Act.put, List.getElem_toArray, List.getElem_cons_succ, List.getElem_cons_zero, List.setIfInBounds_toArray, List.set_cons_zero, List.set_cons_succ]
    refine wpAnyU_take (i := 14) (v := ?_) rfl (by kernel_rfl) (by kernel_rfl) (by kernel_rfl) (by kernel_rfl) (fun _ _ _ h => h) (Or.inl ⟨by rfl, ?_⟩) r2 ?_
    rotate_left 1
    · (intro w' hS; (try dsimp only at hS); (try simp only [List.getElem_toArray, List.getElem_cons_succ, List.getElem_cons_zero]); go_simp; (try with_reducible rfl))
    try simp only [Act.put, List.getElem_toArray, List.getElem_cons_succ, List.getElem_cons_zero, List.setIfInBounds_toArray, List.set_cons_zero, List.set_cons_succ]
    refine wpAnyU_take (i := 16) (v := ?_) rfl (by kernel_rfl) (by kernel_rfl) (by kernel_rfl) (by kernel_rfl) (fun _ _ _ h => h) (Or.inl ⟨by rfl, ?_⟩) r2 ?_
    rotate_left 1
    · (intro w' hS; (try dsimp only at hS); (try simp only [List.getElem_toArray, List.getElem_cons_succ, List.getElem_cons_zero]); go_simp; (try with_reducible rfl))
    try simp only [Act.put, List.getElem_toArray, List.getElem_cons_succ, List.getElem_cons_zero, List.setIfInBounds_toArray, List.set_cons_zero, List.set_cons_succ]
    refine wpAnyU_take (i := 17) (v := ?_) rfl (by kernel_rfl) (by kernel_rfl) (by kernel_rfl) (by kernel_rfl) (fun _ _ _ h => h) (Or.inl ⟨by rfl, ?_⟩) r2 ?_
    rotate_left 1
    · (intro w' hS; (try dsimp only at hS); (try simp only [List.getElem_toArray, List.getElem_cons_succ, List.getElem_cons_zero]); go_simp; (try with_reducible rfl))
    try simp only [Act.put, List.getElem_toArray, List.getElem_cons_succ, List.getElem_cons_zero, List.setIfInBounds_toArray, List.set_cons_zero, List.set_cons_succ]
    refine wpAnyU_take (i := 18) (v := ?_) rfl (by kernel_rfl) (by kernel_rfl) (by kernel_rfl) (by kernel_rfl) (fun _ _ _ h => h) (Or.inl ⟨by rfl, ?_⟩) r2 ?_
    rotate_left 1
    · (intro w' hS; (try dsimp only at hS); (try simp only [List.getElem_toArray, List.getElem_cons_succ, List.getElem_cons_zero]); go_simp; (try with_reducible rfl))
    try simp only [Act.put, List.getElem_toArray, List.getElem_cons_succ, List.getElem_cons_zero, List.setIfInBounds_toArray, List.set_cons_zero, List.set_cons_succ]
    refine wpAnyU_all (rs := [15]) (by kernel_rfl) (by simp) (fun i hi => ?_)
    obtain rfl : i = 15 := by simpa using hi
    refine wpOpU_stepG rfl (by rfl) (fun K hK => ?_)
    go_simp
    refine ((rfullB_does (cs := cs) (x := X) (hd := Y) Hx.out Hf.out h1000).full0 T2.out).mono ?_
    rintro e v3 ⟨rfl, sq⟩
    have r3 : v3.cell? ⟨B0, 5, none⟩ = some (.int .u64 u.m) := (sq.rowm (k := B0) (vs := u.cells) (t := 46) (by simp)).cell rfl
    have T3 := Lib.hid sq
    refine hK _ _ ⟨fun _ => r3, ?_⟩
    clear hK K sq T2 r2
    try simp only [Act.put, List.getElem_toArray, List.getElem_cons_succ, List.getElem_cons_zero, List.setIfInBounds_toArray, List.set_cons_zero, List.set_cons_succ]
    refine wpAnyU_all (rs := [19]) (by kernel_rfl) (by simp) (fun i hi => ?_)
    obtain rfl : i = 19 := by simpa using hi
    refine wpOpU_stepG rfl (by rfl) (fun K hK => ?_)
    go_simp
    refine ((rrfullB_does (cs := cs) (x := X) (hd := Y) Hx.out Hf.out h1000).full1 T3.out).mono ?_
    rintro e v4 ⟨rfl, sq⟩
    have r4 : v4.cell? ⟨B0, 5, none⟩ = some (.int .u64 u.m) := (sq.rowm (k := B0) (vs := u.cells) (t := 46) (by simp)).cell rfl
    have T4 := Lib.hid sq
    refine hK _ _ ⟨fun _ => r4, ?_⟩
    clear hK K sq T3 r3
    try simp only [Act.put, List.getElem_toArray, List.getElem_cons_succ, List.getElem_cons_zero, List.setIfInBounds_toArray, List.set_cons_zero, List.set_cons_succ]
    refine wpAnyU_take (i := 20) (v := ?_) rfl (by kernel_rfl) (by kernel_rfl) (by kernel_rfl) (by kernel_rfl) (fun _ _ _ h => h) (Or.inl ⟨by rfl, ?_⟩) r4 ?_
    rotate_left 1
    · (intro w' hS; (try dsimp only at hS); (try simp only [List.getElem_toArray, List.getElem_cons_succ, List.getElem_cons_zero]); go_simp; (try with_reducible rfl))
    try simp only [Act.put, List.getElem_toArray, List.getElem_cons_succ, List.getElem_cons_zero, List.setIfInBounds_toArray, List.set_cons_zero, List.set_cons_succ]
    refine wpAnyU_take (i := 21) (v := ?_) rfl (by kernel_rfl) (by kernel_rfl) (by kernel_rfl) (by kernel_rfl) (fun _ _ _ h => h) (Or.inl ⟨by rfl, ?_⟩) r4 ?_
    rotate_left 1
    · (intro w' hS; (try dsimp only at hS); (try simp only [List.getElem_toArray, List.getElem_cons_succ, List.getElem_cons_zero]); go_simp; (try with_reducible rfl))
    try simp only [Act.put, List.getElem_toArray, List.getElem_cons_succ, List.getElem_cons_zero, List.setIfInBounds_toArray, List.set_cons_zero, List.set_cons_succ]
    refine wpAnyU_rest _ _ _ _ (fun j hj => ?_) ?_
    · simp at hj; rcases hj with rfl | rfl | rfl | rfl | rfl | rfl | rfl | rfl | rfl | rfl | rfl | rfl | rfl | rfl | rfl | rfl | rfl | rfl | rfl | rfl | rfl | rfl <;> rfl
    refine wpAny_all (rs := [22]) (by kernel_rfl) (by simp) (fun i hi => ?_)
    obtain rfl : i = 22 := by simpa using hi
    refine wpOpU_stepG rfl (by rfl) (fun K hK => ?_)
    go_simp
    refine hK _ _ ?_
    clear hK K
    try simp only [Act.put, List.getElem_toArray, List.getElem_cons_succ, List.getElem_cons_zero, List.setIfInBounds_toArray, List.set_cons_zero, List.set_cons_succ]
    refine wpAny_done (by kernel_rfl) ?_ _
    clear r4
    go_wp2
    go_ret
    exact T4.out.stepped17 (by omega) (by simp) (Rel.put Ha.out _ _ _)
  · rw [hv] at he
    subst he
    clear hv
    obtain ⟨k, hk⟩ : ∃ k, cs[ix Y cs.length]? = some k := ⟨_, List.getElem?_eq_getElem (ix_lt L0.out)⟩
    have hk := Lib.hid hk
    go_wp2_with fail
    refine ((rget_does u.by Y k Ho.out (by omega) Hf.out L0.out h1000 hk.out).star.at0 S4.out).mono ?_
    rintro e w5 ⟨rfl, s5⟩
    have S5 := Lib.hid s5
    clear s5
    go_wp2_with fail
    refine ((rrget_does u.by Y k (by omega) (by omega) Hf.out L0.out h1000 hk.out).star.at1 S5.out).mono ?_
    rintro e w6 ⟨rfl, s6⟩
    have S6 := Lib.hid s6
    clear s6
    go_wp2
    go_ret
    exact S6.out.stepped17 (by omega) (by simp) (Rel.put Ha.out _ _ _)
  · rw [hv] at he
    subst he
    clear hv
    go_wp2_with fail
    refine ((rshow_does u.by Y Ho.out (by omega) Hf.out L0.out h1000).star.at0 S4.out).mono ?_
    rintro e w5 ⟨rfl, s5⟩
    have S5 := Lib.hid s5
    clear s5
    go_wp2_with fail
    refine ((rrshow_does u.by Y (by omega) (by omega) Hf.out L0.out h1000).star.at1 S5.out).mono ?_
    rintro e w6 ⟨rfl, s6⟩
    have S6 := Lib.hid s6
    clear s6
    have um := Hu.out.2.2.2.2.2.1
    have Um := Lib.hid um
    clear um
    have T0 := Lib.hid S6.out.drew
    have r0 : w6.drew.cell? ⟨B0, 5, none⟩ = some (.int .u64 u.m) := (S6.out.drew.rowm (k := B0) (vs := u.cells) (t := 46) (by simp)).cell rfl
    go_wp2_with fail
    refine wp_region_any (by kernel_rfl) ?_
    change wpAny _ _ _ _ _ _ _ (World.drew _)
    refine wpAny_of_U (S := fun w' => w'.cell? ⟨B0, 5, none⟩ = some (.int .u64 u.m)) (U := [0, 1, 2, 3, 4, 5, 6, 7, 8, 9, 10, 11, 12, 13, 14, 15, 16, 17, 18, 19, 20, 21]) _ _ _ _ ?_
    refine wpAnyU_take (i := 0) (v := ?_) rfl (by kernel_rfl) (by kernel_rfl) (by kernel_rfl) (by kernel_rfl) (fun _ _ _ h => h) (Or.inl ⟨by rfl, ?_⟩) r0 ?_
    rotate_left 1
    · (intro w' hS; (try dsimp only at hS); (try simp only [List.getElem_toArray, List.getElem_cons_succ, List.getElem_cons_zero]); go_simp; (try with_reducible rfl))
    try simp only [Act.put, List.getElem_toArray, List.getElem_cons_succ, List.getElem_cons_zero, List.setIfInBounds_toArray, List.set_cons_zero, List.set_cons_succ]
    refine wpAnyU_take (i := 1) (v := ?_) rfl (by kernel_rfl) (by kernel_rfl) (by kernel_rfl) (by kernel_rfl) (fun _ _ _ h => h) (Or.inl ⟨by rfl, ?_⟩) r0 ?_
    rotate_left 1
    · (intro w' hS; (try dsimp only at hS); (try simp only [List.getElem_toArray, List.getElem_cons_succ, List.getElem_cons_zero]); go_simp; (try with_reducible rfl))
    try simp only [Act.put, List.getElem_toArray, List.getElem_cons_succ, List.getElem_cons_zero, List.setIfInBounds_toArray, List.set_cons_zero, List.set_cons_succ]
    refine wpAnyU_take (i := 2) (v := ?_) rfl (by kernel_rfl) (by kernel_rfl) (by kernel_rfl) (by kernel_rfl) (fun _ _ _ h => h) (Or.inl ⟨by rfl, ?_⟩) r0 ?_
    rotate_left 1
    · (intro w' hS; (try dsimp only at hS); (try simp only [List.getElem_toArray, List.getElem_cons_succ, List.getElem_cons_zero]); go_simp; (try with_reducible rfl))
    try simp only [Act.put, List.getElem_toArray, List.getElem_cons_succ, List.getElem_cons_zero, List.setIfInBounds_toArray, List.set_cons_zero, List.set_cons_succ]
    refine wpAnyU_take (i := 3) (v := ?_) rfl (by kernel_rfl) (by kernel_rfl) (by kernel_rfl) (by kernel_rfl) (fun _ _ _ h => h) (Or.inl ⟨by rfl, ?_⟩) r0 ?_
    rotate_left 1
    · (intro w' hS; (try dsimp only at hS); (try simp only [List.getElem_toArray, List.getElem_cons_succ, List.getElem_cons_zero]); go_simp; (try with_reducible rfl))
    try simp only [Act.put, List.getElem_toArray, List.getElem_cons_succ, List.getElem_cons_zero, List.setIfInBounds_toArray, List.set_cons_zero, List.set_cons_succ]
    refine wpAnyU_take (i := 5) (v := ?_) rfl (by kernel_rfl) (by kernel_rfl) (by kernel_rfl) (by kernel_rfl) (fun _ _ _ h => h) (Or.inl ⟨by rfl, ?_⟩) r0 ?_
    rotate_left 1
    · (intro w' hS; (try dsimp only at hS); (try simp only [List.getElem_toArray, List.getElem_cons_succ, List.getElem_cons_zero]); go_simp; (try with_reducible rfl))
    try simp only [Act.put, List.getElem_toArray, List.getElem_cons_succ, List.getElem_cons_zero, List.setIfInBounds_toArray, List.set_cons_zero, List.set_cons_succ]
    refine wpAnyU_take (i := 6) (v := ?_) rfl (by kernel_rfl) (by kernel_rfl) (by kernel_rfl) (by kernel_rfl) (fun _ _ _ h => h) (Or.inl ⟨by rfl, ?_⟩) r0 ?_
    rotate_left 1
    · (intro w' hS; (try dsimp only at hS); (try simp only [List.getElem_toArray, List.getElem_cons_succ, List.getElem_cons_zero]); go_simp; (try with_reducible rfl))
    try simp only [Act.put, List.getElem_toArray, List.getElem_cons_succ, List.getElem_cons_zero, List.setIfInBounds_toArray, List.set_cons_zero, List.set_cons_succ]
    refine wpAnyU_take (i := 7) (v := ?_) rfl (by kernel_rfl) (by kernel_rfl) (by kernel_rfl) (by kernel_rfl) (fun _ _ _ h => h) (Or.inl ⟨by rfl, ?_⟩) r0 ?_
    rotate_left 1
    · (intro w' hS; (try dsimp only at hS); (try simp only [List.getElem_toArray, List.getElem_cons_succ, List.getElem_cons_zero]); go_simp; (try with_reducible rfl))
    try simp only [Act.put, List.getElem_toArray, List.getElem_cons_succ, List.getElem_cons_zero, List.setIfInBounds_toArray, List.set_cons_zero, List.set_cons_succ]
    refine wpAnyU_take (i := 8) (v := ?_) rfl (by kernel_rfl) (by kernel_rfl) (by kernel_rfl) (by kernel_rfl) (fun _ _ _ h => h) (Or.inl ⟨by rfl, ?_⟩) r0 ?_
    rotate_left 1
    · (intro w' hS; (try dsimp only at hS); (try simp only [List.getElem_toArray, List.getElem_cons_succ, List.getElem_cons_zero]); go_simp; (try with_reducible rfl))
    try simp only [Act.put, List.getElem_toArray, List.getElem_cons_succ, List.getElem_cons_zero, List.setIfInBounds_toArray, List.set_cons_zero, List.set_cons_succ]
    refine wpAnyU_all (rs := [4]) (by kernel_rfl) (by simp) (fun i hi => ?_)
    obtain rfl : i = 4 := by simpa using hi
    refine wpOpU_stepG rfl (by rfl) (fun K hK => ?_)
    go_simp
    refine ((rfullB_does (cs := cs) (x := X) (hd := u.m) Hx.out Um.out h1000).full0 T0.out).mono ?_
    rintro e v1 ⟨rfl, sq⟩
    have r1 : v1.cell? ⟨B0, 5, none⟩ = some (.int .u64 u.m) := (sq.rowm (k := B0) (vs := u.cells) (t := 46) (by simp)).cell rfl
    have T1 := Lib.hid sq
    refine hK _ _ ⟨fun _ => r1, ?_⟩
    clear hK K sq T0 r0
    try simp only [Act.put, List.getElem_toArray, List.getElem_cons_succ, List.getElem_cons_zero, List.setIfInBounds_toArray, List.set_cons_zero, List.set_cons_succ]
    refine wpAnyU_all (rs := [9]) (by kernel_rfl) (by simp) (fun i hi => ?_)
    obtain rfl : i = 9 := by simpa using hi
    refine wpOpU_stepG rfl (by rfl) (fun K hK => ?_)
    go_simp
    refine ((rrfullB_does (cs := cs) (x := X) (hd := u.m) Hx.out Um.out h1000).full1 T1.out).mono ?_
    rintro e v2 ⟨rfl, sq⟩
    have r2 : v2.cell? ⟨B0, 5, none⟩ = some (.int .u64 u.m) := (sq.rowm (k := B0) (vs := u.cells) (t := 46) (by simp)).cell rfl
    have T2 := Lib.hid sq
    refine hK _ _ ⟨fun _ => r2, ?_⟩
    clear hK K sq T1 r1
    try simp only [Act.put, List.getElem_toArray, List.getElem_cons_succ, List.getElem_cons_zero, List.setIfInBounds_toArray, List.set_cons_zero, List.set_cons_succ]
    refine wpAnyU_take (i := 10) (v := ?_) rfl (by kernel_rfl) (by kernel_rfl) (by kernel_rfl) (by kernel_rfl) (fun _ _ _ h => h) (Or.inl ⟨by rfl, ?_⟩) r2 ?_
    rotate_left 1
    · (intro w' hS; (try dsimp only at hS); (try simp only [List.getElem_toArray, List.getElem_cons_succ, List.getElem_cons_zero]); go_simp; (try with_reducible rfl))
    try simp only [Act.put, List.getElem_toArray, List.getElem_cons_succ, List.getElem_cons_zero, List.setIfInBounds_toArray, List.set_cons_zero, List.set_cons_succ]
    refine wpAnyU_take (i := 11) (v := ?_) rfl (by kernel_rfl) (by kernel_rfl) (by kernel_rfl) (by kernel_rfl) (fun _ _ _ h => h) (Or.inl ⟨by rfl, ?_⟩) r2 ?_
    rotate_left 1
    · (intro w' hS; (try dsimp only at hS); (try simp only [List.getElem_toArray, List.getElem_cons_succ, List.getElem_cons_zero]); go_simp; (try with_reducible rfl))
    try simp only [Act.put, List.getElem_toArray, List.getElem_cons_succ, List.getElem_cons_zero, List.setIfInBounds_toArray, List.set_cons_zero, List.set_cons_succ]
    refine wpAnyU_take (i := 12) (v := ?_) rfl (by kernel_rfl) (by kernel_rfl) (by kernel_rfl) (by kernel_rfl) (fun _ _ _ h => h) (Or.inl ⟨by rfl, ?_⟩) r2 ?_
    rotate_left 1
    · (intro w' hS; (try dsimp only at hS); (try simp only [List.getElem_toArray, List.getElem_cons_succ, List.getElem_cons_zero]); go_simp; (try with_reducible rfl))
    try simp only [Act.put, List.getElem_toArray, List.getElem_cons_succ, List.getElem_cons_zero, List.setIfInBounds_toArray, List.set_cons_zero, List.set_cons_succ]
    refine wpAnyU_take (i := 13) (v := ?_) rfl (by kernel_rfl) (by kernel_rfl) (by kernel_rfl) (by kernel_rfl) (fun _ _ _ h => h) (Or.inl ⟨by rfl, ?_⟩) r2 ?_
    rotate_left 1
    · (intro w' hS; (try dsimp only at hS); (try simp only [List.getElem_toArray, List.getElem_cons_succ, List.getElem_cons_zero]); go_simp; (try with_reducible rfl))
    try simp only [Act.put, List.getElem_toArray, List.getElem_cons_succ, List.getElem_cons_zero, List.setIfInBounds_toArray, List.set_cons_zero, List.set_cons_succ]
    refine wpAnyU_take (i := 14) (v := ?_) rfl (by kernel_rfl) (by kernel_rfl) (by kernel_rfl) (by kernel_rfl) (fun _ _ _ h => h) (Or.inl ⟨by rfl, ?_⟩) r2 ?_
    rotate_left 1
    · (intro w' hS; (try dsimp only at hS); (try simp only [List.getElem_toArray, List.getElem_cons_succ, List.getElem_cons_zero]); go_simp; (try with_reducible rfl))
    try simp only [Act.put, List.getElem_toArray, List.getElem_cons_succ, List.getElem_cons_zero, List.setIfInBounds_toArray, List.set_cons_zero, List.set_cons_succ]
    refine wpAnyU_take (i := 16) (v := ?_) rfl (by kernel_rfl) (by kernel_rfl) (by kernel_rfl) (by kernel_rfl) (fun _ _ _ h => h) (Or.inl ⟨by rfl, ?_⟩) r2 ?_
    rotate_left 1
    · (intro w' hS; (try dsimp only at hS); (try simp only [List.getElem_toArray, List.getElem_cons_succ, List.getElem_cons_zero]); go_simp; (try with_reducible rfl))
    try simp only [Act.put, List.getElem_toArray, List.getElem_cons_succ, List.getElem_cons_zero, List.setIfInBounds_toArray, List.set_cons_zero, List.set_cons_succ]
    refine wpAnyU_take (i := 17) (v := ?_) rfl (by kernel_rfl) (by kernel_rfl) (by kernel_rfl) (by kernel_rfl) (fun _ _ _ h => h) (Or.inl ⟨by rfl, ?_⟩) r2 ?_
    rotate_left 1
    · (intro w' hS; (try dsimp only at hS); (try simp only [List.getElem_toArray, List.getElem_cons_succ, List.getElem_cons_zero]); go_simp; (try with_reducible rfl))
    try simp only [Act.put, List.getElem_toArray, List.getElem_cons_succ, List.getElem_cons_zero, List.setIfInBounds_toArray, List.set_cons_zero, List.set_cons_succ]
    refine wpAnyU_take (i := 18) (v := ?_) rfl (by kernel_rfl) (by kernel_rfl) (by kernel_rfl) (by kernel_rfl) (fun _ _ _ h => h) (Or.inl ⟨by rfl, ?_⟩) r2 ?_
    rotate_left 1
    · (intro w' hS; (try dsimp only at hS); (try simp only [List.getElem_toArray, List.getElem_cons_succ, List.getElem_cons_zero]); go_simp; (try with_reducible rfl))
    try simp only [Act.put, List.getElem_toArray, List.getElem_cons_succ, List.getElem_cons_zero, List.setIfInBounds_toArray, List.set_cons_zero, List.set_cons_succ]
    refine wpAnyU_all (rs := [15]) (by kernel_rfl) (by simp) (fun i hi => ?_)
    obtain rfl : i = 15 := by simpa using hi
    refine wpOpU_stepG rfl (by rfl) (fun K hK => ?_)
    go_simp
    refine ((rfullB_does (cs := cs) (x := X) (hd := Y) Hx.out Hf.out h1000).full0 T2.out).mono ?_
    rintro e v3 ⟨rfl, sq⟩
    have r3 : v3.cell? ⟨B0, 5, none⟩ = some (.int .u64 u.m) := (sq.rowm (k := B0) (vs := u.cells) (t := 46) (by simp)).cell rfl
    have T3 := Lib.hid sq
    refine hK _ _ ⟨fun _ => r3, ?_⟩
    clear hK K sq T2 r2
    try simp only [Act.put, List.getElem_toArray, List.getElem_cons_succ, List.getElem_cons_zero, List.setIfInBounds_toArray, List.set_cons_zero, List.set_cons_succ]
    refine wpAnyU_all (rs := [19]) (by kernel_rfl) (by simp) (fun i hi => ?_)
    obtain rfl : i = 19 := by simpa using hi
    refine wpOpU_stepG rfl (by rfl) (fun K hK => ?_)
    go_simp
    refine ((rrfullB_does (cs := cs) (x := X) (hd := Y) Hx.out Hf.out h1000).full1 T3.out).mono ?_
    rintro e v4 ⟨rfl, sq⟩
    have r4 : v4.cell? ⟨B0, 5, none⟩ = some (.int .u64 u.m) := (sq.rowm (k := B0) (vs := u.cells) (t := 46) (by simp)).cell rfl
    have T4 := Lib.hid sq
    refine hK _ _ ⟨fun _ => r4, ?_⟩
    clear hK K sq T3 r3
    try simp only [Act.put, List.getElem_toArray, List.getElem_cons_succ, List.getElem_cons_zero, List.setIfInBounds_toArray, List.set_cons_zero, List.set_cons_succ]
    refine wpAnyU_take (i := 20) (v := ?_) rfl (by kernel_rfl) (by kernel_rfl) (by kernel_rfl) (by kernel_rfl) (fun _ _ _ h => h) (Or.inl ⟨by rfl, ?_⟩) r4 ?_
    rotate_left 1
    · (intro w' hS; (try dsimp only at hS); (try simp only [List.getElem_toArray, List.getElem_cons_succ, List.getElem_cons_zero]); go_simp; (try with_reducible rfl))
    try simp only [Act.put, List.getElem_toArray, List.getElem_cons_succ, List.getElem_cons_zero, List.setIfInBounds_toArray, List.set_cons_zero, List.set_cons_succ]
    refine wpAnyU_take (i := 21) (v := ?_) rfl (by kernel_rfl) (by kernel_rfl) (by kernel_rfl) (by kernel_rfl) (fun _ _ _ h => h) (Or.inl ⟨by rfl, ?_⟩) r4 ?_
    rotate_left 1
    · (intro w' hS; (try dsimp only at hS); (try simp only [List.getElem_toArray, List.getElem_cons_succ, List.getElem_cons_zero]); go_simp; (try with_reducible rfl))
    try simp only [Act.put, List.getElem_toArray, List.getElem_cons_succ, List.getElem_cons_zero, List.setIfInBounds_toArray, List.set_cons_zero, List.set_cons_succ]
    refine wpAnyU_rest _ _ _ _ (fun j hj => ?_) ?_
    · simp at hj; rcases hj with rfl | rfl | rfl | rfl | rfl | rfl | rfl | rfl | rfl | rfl | rfl | rfl | rfl | rfl | rfl | rfl | rfl | rfl | rfl | rfl | rfl | rfl <;> rfl
    refine wpAny_all (rs := [22]) (by kernel_rfl) (by simp) (fun i hi => ?_)
    obtain rfl : i = 22 := by simpa using hi
    refine wpOpU_stepG rfl (by rfl) (fun K hK => ?_)
    go_simp
    refine hK _ _ ?_
    clear hK K
    try simp only [Act.put, List.getElem_toArray, List.getElem_cons_succ, List.getElem_cons_zero, List.setIfInBounds_toArray, List.set_cons_zero, List.set_cons_succ]
    refine wpAny_done (by kernel_rfl) ?_ _
    clear r4
    go_wp2
    go_ret
    exact T4.out.stepped17 (by omega) (by simp) (Rel.pset Ha.out _ _ _ _ rfl)
  · rw [hv] at he
    subst he
    clear hv
    go_wp2_with fail
    refine ((rshown_does u.by Y Ho.out (by omega) Hf.out L0.out h1000).star.at0 S4.out).mono ?_
    rintro e w5 ⟨rfl, s5⟩
    have S5 := Lib.hid s5
    clear s5
    go_wp2_with fail
    refine ((rrshown_does u.by Y (by omega) (by omega) Hf.out L0.out h1000).star.at1 S5.out).mono ?_
    rintro e w6 ⟨he, s6⟩
    rw [Af.out] at he
    subst he
    have S6 := Lib.hid s6
    clear s6
    go_wp2
    go_ret
    exact S6.out.stepped17 (by omega) (by simp) (Rel.put Ha.out _ _ _)
  · rw [hv] at he
    subst he
    clear hv
    go_wp2_with fail
    refine ((rfree_does u.by Y Ho.out (by omega)).star.at0 S4.out).mono ?_
    rintro e w5 ⟨rfl, s5⟩
    have S5 := Lib.hid s5
    clear s5
    go_wp2_with fail
    refine ((rrfree_does u.by Y (by omega) (by omega)).star.at1 S5.out).mono ?_
    rintro e w6 ⟨rfl, s6⟩
    have S6 := Lib.hid s6
    clear s6
    have um := Hu.out.2.2.2.2.2.1
    have Um := Lib.hid um
    clear um
    have T0 := Lib.hid S6.out.drew
    have r0 : w6.drew.cell? ⟨B0, 5, none⟩ = some (.int .u64 u.m) := (S6.out.drew.rowm (k := B0) (vs := u.cells) (t := 46) (by simp)).cell rfl
    go_wp2_with fail
    refine wp_region_any (by kernel_rfl) ?_
    change wpAny _ _ _ _ _ _ _ (World.drew _)
    refine wpAny_of_U (S := fun w' => w'.cell? ⟨B0, 5, none⟩ = some (.int .u64 u.m)) (U := [0, 1, 2, 3, 4, 5, 6, 7, 8, 9, 10, 11, 12, 13, 14, 15, 16, 17, 18, 19, 20, 21]) _ _ _ _ ?_
    refine wpAnyU_take (i := 0) (v := ?_) rfl (by kernel_rfl) (by kernel_rfl) (by kernel_rfl) (by kernel_rfl) (fun _ _ _ h => h) (Or.inl ⟨by rfl, ?_⟩) r0 ?_
    rotate_left 1
    · (intro w' hS; (try dsimp only at hS); (try simp only [List.getElem_toArray, List.getElem_cons_succ, List.getElem_cons_zero]); go_simp; (try with_reducible rfl))
    try simp only [Act.put, List.getElem_toArray, List.getElem_cons_succ, List.getElem_cons_zero, List.setIfInBounds_toArray, List.set_cons_zero, List.set_cons_succ]
    refine wpAnyU_take (i := 1) (v := ?_) rfl (by kernel_rfl) (by kernel_rfl) (by kernel_rfl) (by kernel_rfl) (fun _ _ _ h => h) (Or.inl ⟨by rfl, ?_⟩) r0 ?_
    rotate_left 1
    · (intro w' hS; (try dsimp only at hS); (try simp only [List.getElem_toArray, List.getElem_cons_succ, List.getElem_cons_zero]); go_simp; (try with_reducible rfl))
    try simp only [Act.put, List.getElem_toArray, List.getElem_cons_succ, List.getElem_cons_zero, List.setIfInBounds_toArray, List.set_cons_zero, List.set_cons_succ]
    refine wpAnyU_take (i := 2) (v := ?_) rfl (by kernel_rfl) (by kernel_rfl) (by kernel_rfl) (by kernel_rfl) (fun _ _ _ h => h) (Or.inl ⟨by rfl, ?_⟩) r0 ?_
    rotate_left 1
    · (intro w' hS; (try dsimp only at hS); (try simp only [List.getElem_toArray, List.getElem_cons_succ, List.getElem_cons_zero]); go_simp; (try with_reducible rfl))
    try simp only [Act.put, List.getElem_toArray, List.getElem_cons_succ, List.getElem_cons_zero, List.setIfInBounds_toArray, List.set_cons_zero, List.set_cons_succ]
    refine wpAnyU_take (i := 3) (v := ?_) rfl (by kernel_rfl) (by kernel_rfl) (by kernel_rfl) (by kernel_rfl) (fun _ _ _ h => h) (Or.inl ⟨by rfl, ?_⟩) r0 ?_
    rotate_left 1
    · (intro w' hS; (try dsimp only at hS); (try simp only [List.getElem_toArray, List.getElem_cons_succ, List.getElem_cons_zero]); go_simp; (try with_reducible rfl))
    try simp only [Act.put, List.getElem_toArray, List.getElem_cons_succ, List.getElem_cons_zero, List.setIfInBounds_toArray, List.set_cons_zero, List.set_cons_succ]
    refine wpAnyU_take (i := 5) (v := ?_) rfl (by kernel_rfl) (by kernel_rfl) (by kernel_rfl) (by kernel_rfl) (fun _ _ _ h => h) (Or.inl ⟨by rfl, ?_⟩) r0 ?_
    rotate_left 1
    · (intro w' hS; (try dsimp only at hS); (try simp only [List.getElem_toArray, List.getElem_cons_succ, List.getElem_cons_zero]); go_simp; (try with_reducible rfl))
    try simp only [Act.put, List.getElem_toArray, List.getElem_cons_succ, List.getElem_cons_zero, List.setIfInBounds_toArray, List.set_cons_zero, List.set_cons_succ]
    refine wpAnyU_take (i := 6) (v := ?_) rfl (by kernel_rfl) (by kernel_rfl) (by kernel_rfl) (by kernel_rfl) (fun _ _ _ h => h) (Or.inl ⟨by rfl, ?_⟩) r0 ?_
    rotate_left 1
    · (intro w' hS; (try dsimp only at hS); (try simp only [List.getElem_toArray, List.getElem_cons_succ, List.getElem_cons_zero]); go_simp; (try with_reducible rfl))
    try simp only [Act.put, List.getElem_toArray, List.getElem_cons_succ, List.getElem_cons_zero, List.setIfInBounds_toArray, List.set_cons_zero, List.set_cons_succ]
    refine wpAnyU_take (i := 7) (v := ?_) rfl (by kernel_rfl) (by kernel_rfl) (by kernel_rfl) (by kernel_rfl) (fun _ _ _ h => h) (Or.inl ⟨by rfl, ?_⟩) r0 ?_
    rotate_left 1
    · (intro w' hS; (try dsimp only at hS); (try simp only [List.getElem_toArray, List.getElem_cons_succ, List.getElem_cons_zero]); go_simp; (try with_reducible rfl))
    try simp only [Act.put, List.getElem_toArray, List.getElem_cons_succ, List.getElem_cons_zero, List.setIfInBounds_toArray, List.set_cons_zero, List.set_cons_succ]
    refine wpAnyU_take (i := 8) (v := ?_) rfl (by kernel_rfl) (by kernel_rfl) (by kernel_rfl) (by kernel_rfl) (fun _ _ _ h => h) (Or.inl ⟨by rfl, ?_⟩) r0 ?_
    rotate_left 1
    · (intro w' hS; (try dsimp only at hS); (try simp only [List.getElem_toArray, List.getElem_cons_succ, List.getElem_cons_zero]); go_simp; (try with_reducible rfl))
    try simp only [Act.put, List.getElem_toArray, List.getElem_cons_succ, List.getElem_cons_zero, List.setIfInBounds_toArray, List.set_cons_zero, List.set_cons_succ]
    refine wpAnyU_all (rs := [4]) (by kernel_rfl) (by simp) (fun i hi => ?_)
    obtain rfl : i = 4 := by simpa using hi
    refine wpOpU_stepG rfl (by rfl) (fun K hK => ?_)
    go_simp
    refine ((rfullB_does (cs := cs) (x := X) (hd := u.m) Hx.out Um.out h1000).full0 T0.out).mono ?_
    rintro e v1 ⟨rfl, sq⟩
    have r1 : v1.cell? ⟨B0, 5, none⟩ = some (.int .u64 u.m) := (sq.rowm (k := B0) (vs := u.cells) (t := 46) (by simp)).cell rfl
    have T1 := Lib.hid sq
    refine hK _ _ ⟨fun _ => r1, ?_⟩
    clear hK K sq T0 r0
    try simp only [Act.put, List.getElem_toArray, List.getElem_cons_succ, List.getElem_cons_zero, List.setIfInBounds_toArray, List.set_cons_zero, List.set_cons_succ]
    refine wpAnyU_all (rs := [9]) (by kernel_rfl) (by simp) (fun i hi => ?_)
    obtain rfl : i = 9 := by simpa using hi
    refine wpOpU_stepG rfl (by rfl) (fun K hK => ?_)
    go_simp
    refine ((rrfullB_does (cs := cs) (x := X) (hd := u.m) Hx.out Um.out h1000).full1 T1.out).mono ?_
    rintro e v2 ⟨rfl, sq⟩
    have r2 : v2.cell? ⟨B0, 5, none⟩ = some (.int .u64 u.m) := (sq.rowm (k := B0) (vs := u.cells) (t := 46) (by simp)).cell rfl
    have T2 := Lib.hid sq
    refine hK _ _ ⟨fun _ => r2, ?_⟩
    clear hK K sq T1 r1
    try simp only [Act.put, List.getElem_toArray, List.getElem_cons_succ, List.getElem_cons_zero, List.setIfInBounds_toArray, List.set_cons_zero, List.set_cons_succ]
    refine wpAnyU_take (i := 10) (v := ?_) rfl (by kernel_rfl) (by kernel_rfl) (by kernel_rfl) (by kernel_rfl) (fun _ _ _ h => h) (Or.inl ⟨by rfl, ?_⟩) r2 ?_
    rotate_left 1
    · (intro w' hS; (try dsimp only at hS); (try simp only [List.getElem_toArray, List.getElem_cons_succ, List.getElem_cons_zero]); go_simp; (try with_reducible rfl))
    try simp only [Act.put, List.getElem_toArray, List.getElem_cons_succ, List.getElem_cons_zero, List.setIfInBounds_toArray, List.set_cons_zero, List.set_cons_succ]
    refine wpAnyU_take (i := 11) (v := ?_) rfl (by kernel_rfl) (by kernel_rfl) (by kernel_rfl) (by kernel_rfl) (fun _ _ _ h => h) (Or.inl ⟨by rfl, ?_⟩) r2 ?_
    rotate_left 1
    · (intro w' hS; (try dsimp only at hS); (try simp only [List.getElem_toArray, List.getElem_cons_succ, List.getElem_cons_zero]); go_simp; (try with_reducible rfl))
    try simp only [Act.put, List.getElem_toArray, List.getElem_cons_succ, List.getElem_cons_zero, List.setIfInBounds_toArray, List.set_cons_zero, List.set_cons_succ]
    refine wpAnyU_take (i := 12) (v := ?_) rfl (by kernel_rfl) (by kernel_rfl) (by kernel_rfl) (by kernel_rfl) (fun _ _ _ h => h) (Or.inl ⟨by rfl, ?_⟩) r2 ?_
    rotate_left 1
    · (intro w' hS; (try dsimp only at hS); (try simp only [List.getElem_toArray, List.getElem_cons_succ, List.getElem_cons_zero]); go_simp; (try with_reducible rfl))
    try simp only [Act.put, List.getElem_toArray, List.getElem_cons_succ, List.getElem_cons_zero, List.setIfInBounds_toArray, List.set_cons_zero, List.set_cons_succ]
    refine wpAnyU_take (i := 13) (v := ?_) rfl (by kernel_rfl) (by kernel_rfl) (by kernel_rfl) (by kernel_rfl) (fun _ _ _ h => h) (Or.inl ⟨by rfl, ?_⟩) r2 ?_
    rotate_left 1
    · (intro w' hS; (try dsimp only at hS); (try simp only [List.getElem_toArray, List.getElem_cons_succ, List.getElem_cons_zero]); go_simp; (try with_reducible rfl))
    try simp only [Act.put, List.getElem_toArray, List.getElem_cons_succ, List.getElem_cons_zero, List.setIfInBounds_toArray, List.set_cons_zero, List.set_cons_succ]
    refine wpAnyU_take (i := 14) (v := ?_) rfl (by kernel_rfl) (by kernel_rfl) (by kernel_rfl) (by kernel_rfl) (fun _ _ _ h => h) (Or.inl ⟨by rfl, ?_⟩) r2 ?_
    rotate_left 1
    · (intro w' hS; (try dsimp only at hS); (try simp only [List.getElem_toArray, List.getElem_cons_succ, List.getElem_cons_zero]); go_simp; (try with_reducible rfl))
    try simp only [Act.put, List.getElem_toArray, List.getElem_cons_succ, List.getElem_cons_zero, List.setIfInBounds_toArray, List.set_cons_zero, List.set_cons_succ]
    refine wpAnyU_take (i := 16) (v := ?_) rfl (by kernel_rfl) (by kernel_rfl) (by kernel_rfl) (by kernel_rfl) (fun _ _ _ h => h) (Or.inl ⟨by rfl, ?_⟩) r2 ?_
    rotate_left 1
    · (intro w' hS; (try dsimp only at hS); (try simp only [List.getElem_toArray, List.getElem_cons_succ, List.getElem_cons_zero]); go_simp; (try with_reducible rfl))
    try simp only [Act.put, List.getElem_toArray, List.getElem_cons_succ, List.getElem_cons_zero, List.setIfInBounds_toArray, List.set_cons_zero, List.set_cons_succ]
    refine wpAnyU_take (i := 17) (v := ?_) rfl (by kernel_rfl) (by kernel_rfl) (by kernel_rfl) (by kernel_rfl) (fun _ _ _ h => h) (Or.inl ⟨by rfl, ?_⟩) r2 ?_
    rotate_left 1
    · (intro w' hS; (try dsimp only at hS); (try simp only [List.getElem_toArray, List.getElem_cons_succ, List.getElem_cons_zero]); go_simp; (try with_reducible rfl))
    try simp only [Act.put, List.getElem_toArray, List.getElem_cons_succ, List.getElem_cons_zero, List.setIfInBounds_toArray, List.set_cons_zero, List.set_cons_succ]
    refine wpAnyU_take (i := 18) (v := ?_) rfl (by kernel_rfl) (by kernel_rfl) (by kernel_rfl) (by kernel_rfl) (fun _ _ _ h => h) (Or.inl ⟨by rfl, ?_⟩) r2 ?_
    rotate_left 1
    · (intro w' hS; (try dsimp only at hS); (try simp only [List.getElem_toArray, List.getElem_cons_succ, List.getElem_cons_zero]); go_simp; (try with_reducible rfl))
    try simp only [Act.put, List.getElem_toArray, List.getElem_cons_succ, List.getElem_cons_zero, List.setIfInBounds_toArray, List.set_cons_zero, List.set_cons_succ]
    refine wpAnyU_all (rs := [15]) (by kernel_rfl) (by simp) (fun i hi => ?_)
    obtain rfl : i = 15 := by simpa using hi
    refine wpOpU_stepG rfl (by rfl) (fun K hK => ?_)
    go_simp
    refine ((rfullB_does (cs := cs) (x := X) (hd := Y) Hx.out Hf.out h1000).full0 T2.out).mono ?_
    rintro e v3 ⟨rfl, sq⟩
    have r3 : v3.cell? ⟨B0, 5, none⟩ = some (.int .u64 u.m) := (sq.rowm (k := B0) (vs := u.cells) (t := 46) (by simp)).cell rfl
    have T3 := Lib.hid sq
    refine hK _ _ ⟨fun _ => r3, ?_⟩
    clear hK K sq T2 r2
    try simp only [Act.put, List.getElem_toArray, List.getElem_cons_succ, List.getElem_cons_zero, List.setIfInBounds_toArray, List.set_cons_zero, List.set_cons_succ]
    refine wpAnyU_all (rs := [19]) (by kernel_rfl) (by simp) (fun i hi => ?_)
    obtain rfl : i = 19 := by simpa using hi
    refine wpOpU_stepG rfl (by rfl) (fun K hK => ?_)
    go_simp
    refine ((rrfullB_does (cs := cs) (x := X) (hd := Y) Hx.out Hf.out h1000).full1 T3.out).mono ?_
    rintro e v4 ⟨rfl, sq⟩
    have r4 : v4.cell? ⟨B0, 5, none⟩ = some (.int .u64 u.m) := (sq.rowm (k := B0) (vs := u.cells) (t := 46) (by simp)).cell rfl
    have T4 := Lib.hid sq
    refine hK _ _ ⟨fun _ => r4, ?_⟩
    clear hK K sq T3 r3
    try simp only [Act.put, List.getElem_toArray, List.getElem_cons_succ, List.getElem_cons_zero, List.setIfInBounds_toArray, List.set_cons_zero, List.set_cons_succ]
    refine wpAnyU_take (i := 20) (v := ?_) rfl (by kernel_rfl) (by kernel_rfl) (by kernel_rfl) (by kernel_rfl) (fun _ _ _ h => h) (Or.inl ⟨by rfl, ?_⟩) r4 ?_
    rotate_left 1
    · (intro w' hS; (try dsimp only at hS); (try simp only [List.getElem_toArray, List.getElem_cons_succ, List.getElem_cons_zero]); go_simp; (try with_reducible rfl))
    try simp only [Act.put, List.getElem_toArray, List.getElem_cons_succ, List.getElem_cons_zero, List.setIfInBounds_toArray, List.set_cons_zero, List.set_cons_succ]
    refine wpAnyU_take (i := 21) (v := ?_) rfl (by kernel_rfl) (by kernel_rfl) (by kernel_rfl) (by kernel_rfl) (fun _ _ _ h => h) (Or.inl ⟨by rfl, ?_⟩) r4 ?_
    rotate_left 1
    · (intro w' hS; (try dsimp only at hS); (try simp only [List.getElem_toArray, List.getElem_cons_succ, List.getElem_cons_zero]); go_simp; (try with_reducible rfl))
    try simp only [Act.put, List.getElem_toArray, List.getElem_cons_succ, List.getElem_cons_zero, List.setIfInBounds_toArray, List.set_cons_zero, List.set_cons_succ]
    refine wpAnyU_rest _ _ _ _ (fun j hj => ?_) ?_
    · simp at hj; rcases hj with rfl | rfl | rfl | rfl | rfl | rfl | rfl | rfl | rfl | rfl | rfl | rfl | rfl | rfl | rfl | rfl | rfl | rfl | rfl | rfl | rfl | rfl <;> rfl
    refine wpAny_all (rs := [22]) (by kernel_rfl) (by simp) (fun i hi => ?_)
    obtain rfl : i = 22 := by simpa using hi
    refine wpOpU_stepG rfl (by rfl) (fun K hK => ?_)
    go_simp
    refine hK _ _ ?_
    clear hK K
    try simp only [Act.put, List.getElem_toArray, List.getElem_cons_succ, List.getElem_cons_zero, List.setIfInBounds_toArray, List.set_cons_zero, List.set_cons_succ]
    refine wpAny_done (by kernel_rfl) ?_ _
    clear r4
    go_wp2
    go_ret
    exact T4.out.stepped17 (by omega) (by simp) (Rel.pset Ha.out _ _ _ _ rfl)
  · rw [hv] at he
    subst he
    clear hv
    have um := Hu.out.2.2.2.2.2.1
    have Um := Lib.hid um
    clear um
    have T0 := Lib.hid S4.out.drew
    have r0 : w4.drew.cell? ⟨B0, 5, none⟩ = some (.int .u64 u.m) := (S4.out.drew.rowm (k := B0) (vs := u.cells) (t := 46) (by simp)).cell rfl
    go_wp2_with fail
    refine wp_region_any (by kernel_rfl) ?_
    change wpAny _ _ _ _ _ _ _ (World.drew _)
    refine wpAny_of_U (S := fun w' => w'.cell? ⟨B0, 5, none⟩ = some (.int .u64 u.m)) (U := [0, 1, 2, 3, 4, 5, 6, 7, 8, 9, 10, 11, 12, 13, 14, 15, 16, 17, 18, 19, 20, 21]) _ _ _ _ ?_
    refine wpAnyU_take (i := 0) (v := ?_) rfl (by kernel_rfl) (by kernel_rfl) (by kernel_rfl) (by kernel_rfl) (fun _ _ _ h => h) (Or.inl ⟨by rfl, ?_⟩) r0 ?_
    rotate_left 1
    · (intro w' hS; (try dsimp only at hS); (try simp only [List.getElem_toArray, List.getElem_cons_succ, List.getElem_cons_zero]); go_simp; (try with_reducible rfl))
    try simp only [Act.put, List.getElem_toArray, List.getElem_cons_succ, List.getElem_cons_zero, List.setIfInBounds_toArray, List.set_cons_zero, List.set_cons_succ]
    refine wpAnyU_take (i := 1) (v := ?_) rfl (by kernel_rfl) (by kernel_rfl) (by kernel_rfl) (by kernel_rfl) (fun _ _ _ h => h) (Or.inl ⟨by rfl, ?_⟩) r0 ?_
    rotate_left 1
    · (intro w' hS; (try dsimp only at hS); (try simp only [List.getElem_toArray, List.getElem_cons_succ, List.getElem_cons_zero]); go_simp; (try with_reducible rfl))
    try simp only [Act.put, List.getElem_toArray, List.getElem_cons_succ, List.getElem_cons_zero, List.setIfInBounds_toArray, List.set_cons_zero, List.set_cons_succ]
    refine wpAnyU_take (i := 2) (v := ?_) rfl (by kernel_rfl) (by kernel_rfl) (by kernel_rfl) (by kernel_rfl) (fun _ _ _ h => h) (Or.inl ⟨by rfl, ?_⟩) r0 ?_
    rotate_left 1
    · (intro w' hS; (try dsimp only at hS); (try simp only [List.getElem_toArray, List.getElem_cons_succ, List.getElem_cons_zero]); go_simp; (try with_reducible rfl))
    try simp only [Act.put, List.getElem_toArray, List.getElem_cons_succ, List.getElem_cons_zero, List.setIfInBounds_toArray, List.set_cons_zero, List.set_cons_succ]
    refine wpAnyU_take (i := 3) (v := ?_) rfl (by kernel_rfl) (by kernel_rfl) (by kernel_rfl) (by kernel_rfl) (fun _ _ _ h => h) (Or.inl ⟨by rfl, ?_⟩) r0 ?_
    rotate_left 1
    · (intro w' hS; (try dsimp only at hS); (try simp only [List.getElem_toArray, List.getElem_cons_succ, List.getElem_cons_zero]); go_simp; (try with_reducible rfl))
    try simp only [Act.put, List.getElem_toArray, List.getElem_cons_succ, List.getElem_cons_zero, List.setIfInBounds_toArray, List.set_cons_zero, List.set_cons_succ]
    refine wpAnyU_take (i := 5) (v := ?_) rfl (by kernel_rfl) (by kernel_rfl) (by kernel_rfl) (by kernel_rfl) (fun _ _ _ h => h) (Or.inl ⟨by rfl, ?_⟩) r0 ?_
    rotate_left 1
    · (intro w' hS; (try dsimp only at hS); (try simp only [List.getElem_toArray, List.getElem_cons_succ, List.getElem_cons_zero]); go_simp; (try with_reducible rfl))
    try simp only [Act.put, List.getElem_toArray, List.getElem_cons_succ, List.getElem_cons_zero, List.setIfInBounds_toArray, List.set_cons_zero, List.set_cons_succ]
    refine wpAnyU_take (i := 6) (v := ?_) rfl (by kernel_rfl) (by kernel_rfl) (by kernel_rfl) (by kernel_rfl) (fun _ _ _ h => h) (Or.inl ⟨by rfl, ?_⟩) r0 ?_
    rotate_left 1
    · (intro w' hS; (try dsimp only at hS); (try simp only [List.getElem_toArray, List.getElem_cons_succ, List.getElem_cons_zero]); go_simp; (try with_reducible rfl))
    try simp only [Act.put, List.getElem_toArray, List.getElem_cons_succ, List.getElem_cons_zero, List.setIfInBounds_toArray, List.set_cons_zero, List.set_cons_succ]
    refine wpAnyU_take (i := 7) (v := ?_) rfl (by kernel_rfl) (by kernel_rfl) (by kernel_rfl) (by kernel_rfl) (fun _ _ _ h => h) (Or.inl ⟨by rfl, ?_⟩) r0 ?_
    rotate_left 1
    · (intro w' hS; (try dsimp only at hS); (try simp only [List.getElem_toArray, List.getElem_cons_succ, List.getElem_cons_zero]); go_simp; (try with_reducible rfl))
    try simp only [Act.put, List.getElem_toArray, List.getElem_cons_succ, List.getElem_cons_zero, List.setIfInBounds_toArray, List.set_cons_zero, List.set_cons_succ]
    refine wpAnyU_take (i := 8) (v := ?_) rfl (by kernel_rfl) (by kernel_rfl) (by kernel_rfl) (by kernel_rfl) (fun _ _ _ h => h) (Or.inl ⟨by rfl, ?_⟩) r0 ?_
    rotate_left 1
    · (intro w' hS; (try dsimp only at hS); (try simp only [List.getElem_toArray, List.getElem_cons_succ, List.getElem_cons_zero]); go_simp; (try with_reducible rfl))
    try simp only [Act.put, List.getElem_toArray, List.getElem_cons_succ, List.getElem_cons_zero, List.setIfInBounds_toArray, List.set_cons_zero, List.set_cons_succ]
    refine wpAnyU_all (rs := [4]) (by kernel_rfl) (by simp) (fun i hi => ?_)
    obtain rfl : i = 4 := by simpa using hi
    refine wpOpU_stepG rfl (by rfl) (fun K hK => ?_)
    go_simp
    refine ((rfullB_does (cs := cs) (x := X) (hd := u.m) Hx.out Um.out h1000).full0 T0.out).mono ?_
    rintro e v1 ⟨rfl, sq⟩
    have r1 : v1.cell? ⟨B0, 5, none⟩ = some (.int .u64 u.m) := (sq.rowm (k := B0) (vs := u.cells) (t := 46) (by simp)).cell rfl
    have T1 := Lib.hid sq
    refine hK _ _ ⟨fun _ => r1, ?_⟩
    clear hK K sq T0 r0
    try simp only [Act.put, List.getElem_toArray, List.getElem_cons_succ, List.getElem_cons_zero, List.setIfInBounds_toArray, List.set_cons_zero, List.set_cons_succ]
    refine wpAnyU_all (rs := [9]) (by kernel_rfl) (by simp) (fun i hi => ?_)
    obtain rfl : i = 9 := by simpa using hi
    refine wpOpU_stepG rfl (by rfl) (fun K hK => ?_)
    go_simp
    refine ((rrfullB_does (cs := cs) (x := X) (hd := u.m) Hx.out Um.out h1000).full1 T1.out).mono ?_
    rintro e v2 ⟨rfl, sq⟩
    have r2 : v2.cell? ⟨B0, 5, none⟩ = some (.int .u64 u.m) := (sq.rowm (k := B0) (vs := u.cells) (t := 46) (by simp)).cell rfl
    have T2 := Lib.hid sq
    refine hK _ _ ⟨fun _ => r2, ?_⟩
    clear hK K sq T1 r1
    try simp only [Act.put, List.getElem_toArray, List.getElem_cons_succ, List.getElem_cons_zero, List.setIfInBounds_toArray, List.set_cons_zero, List.set_cons_succ]
    refine wpAnyU_take (i := 10) (v := ?_) rfl (by kernel_rfl) (by kernel_rfl) (by kernel_rfl) (by kernel_rfl) (fun _ _ _ h => h) (Or.inl ⟨by rfl, ?_⟩) r2 ?_
    rotate_left 1
    · (intro w' hS; (try dsimp only at hS); (try simp only [List.getElem_toArray, List.getElem_cons_succ, List.getElem_cons_zero]); go_simp; (try with_reducible rfl))
    try simp only [Act.put, List.getElem_toArray, List.getElem_cons_succ, List.getElem_cons_zero, List.setIfInBounds_toArray, List.set_cons_zero, List.set_cons_succ]
    refine wpAnyU_take (i := 11) (v := ?_) rfl (by kernel_rfl) (by kernel_rfl) (by kernel_rfl) (by kernel_rfl) (fun _ _ _ h => h) (Or.inl ⟨by rfl, ?_⟩) r2 ?_
    rotate_left 1
    · (intro w' hS; (try dsimp only at hS); (try simp only [List.getElem_toArray, List.getElem_cons_succ, List.getElem_cons_zero]); go_simp; (try with_reducible rfl))
    try simp only [Act.put, List.getElem_toArray, List.getElem_cons_succ, List.getElem_cons_zero, List.setIfInBounds_toArray, List.set_cons_zero, List.set_cons_succ]
    refine wpAnyU_take (i := 12) (v := ?_) rfl (by kernel_rfl) (by kernel_rfl) (by kernel_rfl) (by kernel_rfl) (fun _ _ _ h => h) (Or.inl ⟨by rfl, ?_⟩) r2 ?_
    rotate_left 1
    · (intro w' hS; (try dsimp only at hS); (try simp only [List.getElem_toArray, List.getElem_cons_succ, List.getElem_cons_zero]); go_simp; (try with_reducible rfl))
    try simp only [Act.put, List.getElem_toArray, List.getElem_cons_succ, List.getElem_cons_zero, List.setIfInBounds_toArray, List.set_cons_zero, List.set_cons_succ]
    refine wpAnyU_take (i := 13) (v := ?_) rfl (by kernel_rfl) (by kernel_rfl) (by kernel_rfl) (by kernel_rfl) (fun _ _ _ h => h) (Or.inl ⟨by rfl, ?_⟩) r2 ?_
    rotate_left 1
    · (intro w' hS; (try dsimp only at hS); (try simp only [List.getElem_toArray, List.getElem_cons_succ, List.getElem_cons_zero]); go_simp; (try with_reducible rfl))
    try simp only [Act.put, List.getElem_toArray, List.getElem_cons_succ, List.getElem_cons_zero, List.setIfInBounds_toArray, List.set_cons_zero, List.set_cons_succ]
    refine wpAnyU_take (i := 14) (v := ?_) rfl (by kernel_rfl) (by kernel_rfl) (by kernel_rfl) (by kernel_rfl) (fun _ _ _ h => h) (Or.inl ⟨by rfl, ?_⟩) r2 ?_
    rotate_left 1
    · (intro w' hS; (try dsimp only at hS); (try simp only [List.getElem_toArray, List.getElem_cons_succ, List.getElem_cons_zero]); go_simp; (try with_reducible rfl))
    try simp only [Act.put, List.getElem_toArray, List.getElem_cons_succ, List.getElem_cons_zero, List.setIfInBounds_toArray, List.set_cons_zero, List.set_cons_succ]
    refine wpAnyU_take (i := 16) (v := ?_) rfl (by kernel_rfl) (by kernel_rfl) (by kernel_rfl) (by kernel_rfl) (fun _ _ _ h => h) (Or.inl ⟨by rfl, ?_⟩) r2 ?_
    rotate_left 1
    · (intro w' hS; (try dsimp only at hS); (try simp only [List.getElem_toArray, List.getElem_cons_succ, List.getElem_cons_zero]); go_simp; (try with_reducible rfl))
    try simp only [Act.put, List.getElem_toArray, List.getElem_cons_succ, List.getElem_cons_zero, List.setIfInBounds_toArray, List.set_cons_zero, List.set_cons_succ]
    refine wpAnyU_take (i := 17) (v := ?_) rfl (by kernel_rfl) (by kernel_rfl) (by kernel_rfl) (by kernel_rfl) (fun _ _ _ h => h) (Or.inl ⟨by rfl, ?_⟩) r2 ?_
    rotate_left 1
    · (intro w' hS; (try dsimp only at hS); (try simp only [List.getElem_toArray, List.getElem_cons_succ, List.getElem_cons_zero]); go_simp; (try with_reducible rfl))
    try simp only [Act.put, List.getElem_toArray, List.getElem_cons_succ, List.getElem_cons_zero, List.setIfInBounds_toArray, List.set_cons_zero, List.set_cons_succ]
    refine wpAnyU_take (i := 18) (v := ?_) rfl (by kernel_rfl) (by kernel_rfl) (by kernel_rfl) (by kernel_rfl) (fun _ _ _ h => h) (Or.inl ⟨by rfl, ?_⟩) r2 ?_
    rotate_left 1
    · (intro w' hS; (try dsimp only at hS); (try simp only [List.getElem_toArray, List.getElem_cons_succ, List.getElem_cons_zero]); go_simp; (try with_reducible rfl))
    try simp only [Act.put, List.getElem_toArray, List.getElem_cons_succ, List.getElem_cons_zero, List.setIfInBounds_toArray, List.set_cons_zero, List.set_cons_succ]
    refine wpAnyU_all (rs := [15]) (by kernel_rfl) (by simp) (fun i hi => ?_)
    obtain rfl : i = 15 := by simpa using hi
    refine wpOpU_stepG rfl (by rfl) (fun K hK => ?_)
    go_simp
    refine ((rfullB_does (cs := cs) (x := X) (hd := Y) Hx.out Hf.out h1000).full0 T2.out).mono ?_
    rintro e v3 ⟨rfl, sq⟩
    have r3 : v3.cell? ⟨B0, 5, none⟩ = some (.int .u64 u.m) := (sq.rowm (k := B0) (vs := u.cells) (t := 46) (by simp)).cell rfl
    have T3 := Lib.hid sq
    refine hK _ _ ⟨fun _ => r3, ?_⟩
    clear hK K sq T2 r2
    try simp only [Act.put, List.getElem_toArray, List.getElem_cons_succ, List.getElem_cons_zero, List.setIfInBounds_toArray, List.set_cons_zero, List.set_cons_succ]
    refine wpAnyU_all (rs := [19]) (by kernel_rfl) (by simp) (fun i hi => ?_)
    obtain rfl : i = 19 := by simpa using hi
    refine wpOpU_stepG rfl (by rfl) (fun K hK => ?_)
    go_simp
    refine ((rrfullB_does (cs := cs) (x := X) (hd := Y) Hx.out Hf.out h1000).full1 T3.out).mono ?_
    rintro e v4 ⟨rfl, sq⟩
    have r4 : v4.cell? ⟨B0, 5, none⟩ = some (.int .u64 u.m) := (sq.rowm (k := B0) (vs := u.cells) (t := 46) (by simp)).cell rfl
    have T4 := Lib.hid sq
    refine hK _ _ ⟨fun _ => r4, ?_⟩
    clear hK K sq T3 r3
    try simp only [Act.put, List.getElem_toArray, List.getElem_cons_succ, List.getElem_cons_zero, List.setIfInBounds_toArray, List.set_cons_zero, List.set_cons_succ]
    refine wpAnyU_take (i := 20) (v := ?_) rfl (by kernel_rfl) (by kernel_rfl) (by kernel_rfl) (by kernel_rfl) (fun _ _ _ h => h) (Or.inl ⟨by rfl, ?_⟩) r4 ?_
    rotate_left 1
    · (intro w' hS; (try dsimp only at hS); (try simp only [List.getElem_toArray, List.getElem_cons_succ, List.getElem_cons_zero]); go_simp; (try with_reducible rfl))
    try simp only [Act.put, List.getElem_toArray, List.getElem_cons_succ, List.getElem_cons_zero, List.setIfInBounds_toArray, List.set_cons_zero, List.set_cons_succ]
    refine wpAnyU_take (i := 21) (v := ?_) rfl (by kernel_rfl) (by kernel_rfl) (by kernel_rfl) (by kernel_rfl) (fun _ _ _ h => h) (Or.inl ⟨by rfl, ?_⟩) r4 ?_
    rotate_left 1
    · (intro w' hS; (try dsimp only at hS); (try simp only [List.getElem_toArray, List.getElem_cons_succ, List.getElem_cons_zero]); go_simp; (try with_reducible rfl))
    try simp only [Act.put, List.getElem_toArray, List.getElem_cons_succ, List.getElem_cons_zero, List.setIfInBounds_toArray, List.set_cons_zero, List.set_cons_succ]
    refine wpAnyU_rest _ _ _ _ (fun j hj => ?_) ?_
    · simp at hj; rcases hj with rfl | rfl | rfl | rfl | rfl | rfl | rfl | rfl | rfl | rfl | rfl | rfl | rfl | rfl | rfl | rfl | rfl | rfl | rfl | rfl | rfl | rfl <;> rfl
    refine wpAny_all (rs := [22]) (by kernel_rfl) (by simp) (fun i hi => ?_)
    obtain rfl : i = 22 := by simpa using hi
    refine wpOpU_stepG rfl (by rfl) (fun K hK => ?_)
    go_simp
    refine hK _ _ ?_
    clear hK K
    try simp only [Act.put, List.getElem_toArray, List.getElem_cons_succ, List.getElem_cons_zero, List.setIfInBounds_toArray, List.set_cons_zero, List.set_cons_succ]
    refine wpAny_done (by kernel_rfl) ?_ _
    clear r4
    go_wp2
    go_ret
    exact T4.out.stepped17 (by omega) (by simp) (Rel.refl Ha.out)
  · rw [hv] at he
    subst he
    clear hv
    have um := Hu.out.2.2.2.2.2.1
    have Um := Lib.hid um
    clear um
    have T0 := Lib.hid S4.out.drew
    have r0 : w4.drew.cell? ⟨B0, 5, none⟩ = some (.int .u64 u.m) := (S4.out.drew.rowm (k := B0) (vs := u.cells) (t := 46) (by simp)).cell rfl
    go_wp2_with fail
    refine wp_region_any (by kernel_rfl) ?_
    change wpAny _ _ _ _ _ _ _ (World.drew _)
    refine wpAny_of_U (S := fun w' => w'.cell? ⟨B0, 5, none⟩ = some (.int .u64 u.m)) (U := [0, 1, 2, 3, 4, 5, 6, 7, 8, 9, 10, 11, 12, 13, 14, 15, 16, 17, 18, 19, 20, 21]) _ _ _ _ ?_
    refine wpAnyU_take (i := 0) (v := ?_) rfl (by kernel_rfl) (by kernel_rfl) (by kernel_rfl) (by kernel_rfl) (fun _ _ _ h => h) (Or.inl ⟨by rfl, ?_⟩) r0 ?_
    rotate_left 1
    · (intro w' hS; (try dsimp only at hS); (try simp only [List.getElem_toArray, List.getElem_cons_succ, List.getElem_cons_zero]); go_simp; (try with_reducible rfl))
    try simp only [Act.put, List.getElem_toArray, List.getElem_cons_succ, List.getElem_cons_zero, List.setIfInBounds_toArray, List.set_cons_zero, List.set_cons_succ]
    refine wpAnyU_take (i := 1) (v := ?_) rfl (by kernel_rfl) (by kernel_rfl) (by kernel_rfl) (by kernel_rfl) (fun _ _ _ h => h) (Or.inl ⟨by rfl, ?_⟩) r0 ?_
    rotate_left 1
    · (intro w' hS; (try dsimp only at hS); (try simp only [List.getElem_toArray, List.getElem_cons_succ, List.getElem_cons_zero]); go_simp; (try with_reducible rfl))
    try simp only [Act.put, List.getElem_toArray, List.getElem_cons_succ, List.getElem_cons_zero, List.setIfInBounds_toArray, List.set_cons_zero, List.set_cons_succ]
    refine wpAnyU_take (i := 2) (v := ?_) rfl (by kernel_rfl) (by kernel_rfl) (by kernel_rfl) (by kernel_rfl) (fun _ _ _ h => h) (Or.inl ⟨by rfl, ?_⟩) r0 ?_
    rotate_left 1
    · (intro w' hS; (try dsimp only at hS); (try simp only [List.getElem_toArray, List.getElem_cons_succ, List.getElem_cons_zero]); go_simp; (try with_reducible rfl))
    try simp only [Act.put, List.getElem_toArray, List.getElem_cons_succ, List.getElem_cons_zero, List.setIfInBounds_toArray, List.set_cons_zero, List.set_cons_succ]
    refine wpAnyU_take (i := 3) (v := ?_) rfl (by kernel_rfl) (by kernel_rfl) (by kernel_rfl) (by kernel_rfl) (fun _ _ _ h => h) (Or.inl ⟨by rfl, ?_⟩) r0 ?_
    rotate_left 1
    · (intro w' hS; (try dsimp only at hS); (try simp only [List.getElem_toArray, List.getElem_cons_succ, List.getElem_cons_zero]); go_simp; (try with_reducible rfl))
    try simp only [Act.put, List.getElem_toArray, List.getElem_cons_succ, List.getElem_cons_zero, List.setIfInBounds_toArray, List.set_cons_zero, List.set_cons_succ]
    refine wpAnyU_take (i := 5) (v := ?_) rfl (by kernel_rfl) (by kernel_rfl) (by kernel_rfl) (by kernel_rfl) (fun _ _ _ h => h) (Or.inl ⟨by rfl, ?_⟩) r0 ?_
    rotate_left 1
    · (intro w' hS; (try dsimp only at hS); (try simp only [List.getElem_toArray, List.getElem_cons_succ, List.getElem_cons_zero]); go_simp; (try with_reducible rfl))
    try simp only [Act.put, List.getElem_toArray, List.getElem_cons_succ, List.getElem_cons_zero, List.setIfInBounds_toArray, List.set_cons_zero, List.set_cons_succ]
    refine wpAnyU_take (i := 6) (v := ?_) rfl (by kernel_rfl) (by kernel_rfl) (by kernel_rfl) (by kernel_rfl) (fun _ _ _ h => h) (Or.inl ⟨by rfl, ?_⟩) r0 ?_
    rotate_left 1
    · (intro w' hS; (try dsimp only at hS); (try simp only [List.getElem_toArray, List.getElem_cons_succ, List.getElem_cons_zero]); go_simp; (try with_reducible rfl))
    try simp only [Act.put, List.getElem_toArray, List.getElem_cons_succ, List.getElem_cons_zero, List.setIfInBounds_toArray, List.set_cons_zero, List.set_cons_succ]
    refine wpAnyU_take (i := 7) (v := ?_) rfl (by kernel_rfl) (by kernel_rfl) (by kernel_rfl) (by kernel_rfl) (fun _ _ _ h => h) (Or.inl ⟨by rfl, ?_⟩) r0 ?_
    rotate_left 1
    · (intro w' hS; (try dsimp only at hS); (try simp only [List.getElem_toArray, List.getElem_cons_succ, List.getElem_cons_zero]); go_simp; (try with_reducible rfl))
    try simp only [Act.put, List.getElem_toArray, List.getElem_cons_succ, List.getElem_cons_zero, List.setIfInBounds_toArray, List.set_cons_zero, List.set_cons_succ]
    refine wpAnyU_take (i := 8) (v := ?_) rfl (by kernel_rfl) (by kernel_rfl) (by kernel_rfl) (by kernel_rfl) (fun _ _ _ h => h) (Or.inl ⟨by rfl, ?_⟩) r0 ?_
    rotate_left 1
    · (intro w' hS; (try dsimp only at hS); (try simp only [List.getElem_toArray, List.getElem_cons_succ, List.getElem_cons_zero]); go_simp; (try with_reducible rfl))
    try simp only [Act.put, List.getElem_toArray, List.getElem_cons_succ, List.getElem_cons_zero, List.setIfInBounds_toArray, List.set_cons_zero, List.set_cons_succ]
    refine wpAnyU_all (rs := [4]) (by kernel_rfl) (by simp) (fun i hi => ?_)
    obtain rfl : i = 4 := by simpa using hi
    refine wpOpU_stepG rfl (by rfl) (fun K hK => ?_)
    go_simp
    refine ((rfullB_does (cs := cs) (x := X) (hd := u.m) Hx.out Um.out h1000).full0 T0.out).mono ?_
    rintro e v1 ⟨rfl, sq⟩
    have r1 : v1.cell? ⟨B0, 5, none⟩ = some (.int .u64 u.m) := (sq.rowm (k := B0) (vs := u.cells) (t := 46) (by simp)).cell rfl
    have T1 := Lib.hid sq
    refine hK _ _ ⟨fun _ => r1, ?_⟩
    clear hK K sq T0 r0
    try simp only [Act.put, List.getElem_toArray, List.getElem_cons_succ, List.getElem_cons_zero, List.setIfInBounds_toArray, List.set_cons_zero, List.set_cons_succ]
    refine wpAnyU_all (rs := [9]) (by kernel_rfl) (by simp) (fun i hi => ?_)
    obtain rfl : i = 9 := by simpa using hi
    refine wpOpU_stepG rfl (by rfl) (fun K hK => ?_)
    go_simp
    refine ((rrfullB_does (cs := cs) (x := X) (hd := u.m) Hx.out Um.out h1000).full1 T1.out).mono ?_
    rintro e v2 ⟨rfl, sq⟩
    have r2 : v2.cell? ⟨B0, 5, none⟩ = some (.int .u64 u.m) := (sq.rowm (k := B0) (vs := u.cells) (t := 46) (by simp)).cell rfl
    have T2 := Lib.hid sq
    refine hK _ _ ⟨fun _ => r2, ?_⟩
    clear hK K sq T1 r1
    try simp only [Act.put, List.getElem_toArray, List.getElem_cons_succ, List.getElem_cons_zero, List.setIfInBounds_toArray, List.set_cons_zero, List.set_cons_succ]
    refine wpAnyU_take (i := 10) (v := ?_) rfl (by kernel_rfl) (by kernel_rfl) (by kernel_rfl) (by kernel_rfl) (fun _ _ _ h => h) (Or.inl ⟨by rfl, ?_⟩) r2 ?_
    rotate_left 1
    · (intro w' hS; (try dsimp only at hS); (try simp only [List.getElem_toArray, List.getElem_cons_succ, List.getElem_cons_zero]); go_simp; (try with_reducible rfl))
    try simp only [Act.put, List.getElem_toArray, List.getElem_cons_succ, List.getElem_cons_zero, List.setIfInBounds_toArray, List.set_cons_zero, List.set_cons_succ]
    refine wpAnyU_take (i := 11) (v := ?_) rfl (by kernel_rfl) (by kernel_rfl) (by kernel_rfl) (by kernel_rfl) (fun _ _ _ h => h) (Or.inl ⟨by rfl, ?_⟩) r2 ?_
    rotate_left 1
    · (intro w' hS; (try dsimp only at hS); (try simp only [List.getElem_toArray, List.getElem_cons_succ, List.getElem_cons_zero]); go_simp; (try with_reducible rfl))
    try simp only [Act.put, List.getElem_toArray, List.getElem_cons_succ, List.getElem_cons_zero, List.setIfInBounds_toArray, List.set_cons_zero, List.set_cons_succ]
    refine wpAnyU_take (i := 12) (v := ?_) rfl (by kernel_rfl) (by kernel_rfl) (by kernel_rfl) (by kernel_rfl) (fun _ _ _ h => h) (Or.inl ⟨by rfl, ?_⟩) r2 ?_
    rotate_left 1
    · (intro w' hS; (try dsimp only at hS); (try simp only [List.getElem_toArray, List.getElem_cons_succ, List.getElem_cons_zero]); go_simp; (try with_reducible rfl))
    try simp only [Act.put, List.getElem_toArray, List.getElem_cons_succ, List.getElem_cons_zero, List.setIfInBounds_toArray, List.set_cons_zero, List.set_cons_succ]
    refine wpAnyU_take (i := 13) (v := ?_) rfl (by kernel_rfl) (by kernel_rfl) (by kernel_rfl) (by kernel_rfl) (fun _ _ _ h => h) (Or.inl ⟨by rfl, ?_⟩) r2 ?_
    rotate_left 1
    · (intro w' hS; (try dsimp only at hS); (try simp only [List.getElem_toArray, List.getElem_cons_succ, List.getElem_cons_zero]); go_simp; (try with_reducible rfl))
    try simp only [Act.put, List.getElem_toArray, List.getElem_cons_succ, List.getElem_cons_zero, List.setIfInBounds_toArray, List.set_cons_zero, List.set_cons_succ]
    refine wpAnyU_take (i := 14) (v := ?_) rfl (by kernel_rfl) (by kernel_rfl) (by kernel_rfl) (by kernel_rfl) (fun _ _ _ h => h) (Or.inl ⟨by rfl, ?_⟩) r2 ?_
    rotate_left 1
    · (intro w' hS; (try dsimp only at hS); (try simp only [List.getElem_toArray, List.getElem_cons_succ, List.getElem_cons_zero]); go_simp; (try with_reducible rfl))
    try simp only [Act.put, List.getElem_toArray, List.getElem_cons_succ, List.getElem_cons_zero, List.setIfInBounds_toArray, List.set_cons_zero, List.set_cons_succ]
    refine wpAnyU_take (i := 16) (v := ?_) rfl (by kernel_rfl) (by kernel_rfl) (by kernel_rfl) (by kernel_rfl) (fun _ _ _ h => h) (Or.inl ⟨by rfl, ?_⟩) r2 ?_
    rotate_left 1
    · (intro w' hS; (try dsimp only at hS); (try simp only [List.getElem_toArray, List.getElem_cons_succ, List.getElem_cons_zero]); go_simp; (try with_reducible rfl))
    try simp only [Act.put, List.getElem_toArray, List.getElem_cons_succ, List.getElem_cons_zero, List.setIfInBounds_toArray, List.set_cons_zero, List.set_cons_succ]
    refine wpAnyU_take (i := 17) (v := ?_) rfl (by kernel_rfl) (by kernel_rfl) (by kernel_rfl) (by kernel_rfl) (fun _ _ _ h => h) (Or.inl ⟨by rfl, ?_⟩) r2 ?_
    rotate_left 1
    · (intro w' hS; (try dsimp only at hS); (try simp only [List.getElem_toArray, List.getElem_cons_succ, List.getElem_cons_zero]); go_simp; (try with_reducible rfl))
    try simp only [Act.put, List.getElem_toArray, List.getElem_cons_succ, List.getElem_cons_zero, List.setIfInBounds_toArray, List.set_cons_zero, List.set_cons_succ]
    refine wpAnyU_take (i := 18) (v := ?_) rfl (by kernel_rfl) (by kernel_rfl) (by kernel_rfl) (by kernel_rfl) (fun _ _ _ h => h) (Or.inl ⟨by rfl, ?_⟩) r2 ?_
    rotate_left 1
    · (intro w' hS; (try dsimp only at hS); (try simp only [List.getElem_toArray, List.getElem_cons_succ, List.getElem_cons_zero]); go_simp; (try with_reducible rfl))
    try simp only [Act.put, List.getElem_toArray, List.getElem_cons_succ, List.getElem_cons_zero, List.setIfInBounds_toArray, List.set_cons_zero, List.set_cons_succ]
    refine wpAnyU_all (rs := [15]) (by kernel_rfl) (by simp) (fun i hi => ?_)
    obtain rfl : i = 15 := by simpa using hi
    refine wpOpU_stepG rfl (by rfl) (fun K hK => ?_)
    go_simp
    refine ((rfullB_does (cs := cs) (x := X) (hd := Y) Hx.out Hf.out h1000).full0 T2.out).mono ?_
    rintro e v3 ⟨rfl, sq⟩
    have r3 : v3.cell? ⟨B0, 5, none⟩ = some (.int .u64 u.m) := (sq.rowm (k := B0) (vs := u.cells) (t := 46) (by simp)).cell rfl
    have T3 := Lib.hid sq
    refine hK _ _ ⟨fun _ => r3, ?_⟩
    clear hK K sq T2 r2
    try simp only [Act.put, List.getElem_toArray, List.getElem_cons_succ, List.getElem_cons_zero, List.setIfInBounds_toArray, List.set_cons_zero, List.set_cons_succ]
    refine wpAnyU_all (rs := [19]) (by kernel_rfl) (by simp) (fun i hi => ?_)
    obtain rfl : i = 19 := by simpa using hi
    refine wpOpU_stepG rfl (by rfl) (fun K hK => ?_)
    go_simp
    refine ((rrfullB_does (cs := cs) (x := X) (hd := Y) Hx.out Hf.out h1000).full1 T3.out).mono ?_
    rintro e v4 ⟨rfl, sq⟩
    have r4 : v4.cell? ⟨B0, 5, none⟩ = some (.int .u64 u.m) := (sq.rowm (k := B0) (vs := u.cells) (t := 46) (by simp)).cell rfl
    have T4 := Lib.hid sq
    refine hK _ _ ⟨fun _ => r4, ?_⟩
    clear hK K sq T3 r3
    try simp only [Act.put, List.getElem_toArray, List.getElem_cons_succ, List.getElem_cons_zero, List.setIfInBounds_toArray, List.set_cons_zero, List.set_cons_succ]
    refine wpAnyU_take (i := 20) (v := ?_) rfl (by kernel_rfl) (by kernel_rfl) (by kernel_rfl) (by kernel_rfl) (fun _ _ _ h => h) (Or.inl ⟨by rfl, ?_⟩) r4 ?_
    rotate_left 1
    · (intro w' hS; (try dsimp only at hS); (try simp only [List.getElem_toArray, List.getElem_cons_succ, List.getElem_cons_zero]); go_simp; (try with_reducible rfl))
    try simp only [Act.put, List.getElem_toArray, List.getElem_cons_succ, List.getElem_cons_zero, List.setIfInBounds_toArray, List.set_cons_zero, List.set_cons_succ]
    refine wpAnyU_take (i := 21) (v := ?_) rfl (by kernel_rfl) (by kernel_rfl) (by kernel_rfl) (by kernel_rfl) (fun _ _ _ h => h) (Or.inl ⟨by rfl, ?_⟩) r4 ?_
    rotate_left 1
    · (intro w' hS; (try dsimp only at hS); (try simp only [List.getElem_toArray, List.getElem_cons_succ, List.getElem_cons_zero]); go_simp; (try with_reducible rfl))
    try simp only [Act.put, List.getElem_toArray, List.getElem_cons_succ, List.getElem_cons_zero, List.setIfInBounds_toArray, List.set_cons_zero, List.set_cons_succ]
    refine wpAnyU_rest _ _ _ _ (fun j hj => ?_) ?_
    · simp at hj; rcases hj with rfl | rfl | rfl | rfl | rfl | rfl | rfl | rfl | rfl | rfl | rfl | rfl | rfl | rfl | rfl | rfl | rfl | rfl | rfl | rfl | rfl | rfl <;> rfl
    refine wpAny_all (rs := [22]) (by kernel_rfl) (by simp) (fun i hi => ?_)
    obtain rfl : i = 22 := by simpa using hi
    refine wpOpU_stepG rfl (by rfl) (fun K hK => ?_)
    go_simp
    refine hK _ _ ?_
    clear hK K
    try simp only [Act.put, List.getElem_toArray, List.getElem_cons_succ, List.getElem_cons_zero, List.setIfInBounds_toArray, List.set_cons_zero, List.set_cons_succ]
    refine wpAny_done (by kernel_rfl) ?_ _
    clear r4
    go_wp2
    go_ret
    exact T4.out.stepped17 (by omega) (by simp) (Rel.refl Ha.out)
end Go.Proofs.Ytjipjhmcpjffcad
