/- step of layer 16: a use of both, package mem's memory and the reference's: they tell the same. -/
import Derived.Test.YtcbipbnomgdklaaLaw16
import Derived.Test.YtcbipbnomgdklaaRefD
import Derived.Test.YtcbipbnomgdklaaPlay
import Derived.Deep.DeepCutAuto
set_option linter.unusedSimpArgs false
set_option linter.unusedVariables false
namespace Go.Proofs.Ytcbipbnomgdklaa
open Go Go.RowKit Go.Maps

section
variable {P : Program} {S : List Nat} {w0 w : World} {A A' X : HA} {Bs As : List HA} {f : FuncId} {args : Array Value} {r : Value}
theorem Does.at0 (d : Does P [A] f args r [A']) (h : Scope S w0 w (A :: Bs)) : Calls P f args w fun e w' => e = .returned r ∧ Scope S w0 w' (A' :: Bs) := Does.call (As := [A]) (As' := [A']) (Bs := Bs) d h
theorem Scope.swap2 (h : Scope S w0 w (A :: X :: Bs)) : Scope S w0 w (X :: A :: Bs) := Scope.swap (As := [A]) (Bs := [X]) (Cs := Bs) h
theorem Does.at1 (d : Does P [A] f args r [A']) (h : Scope S w0 w (X :: A :: Bs)) : Calls P f args w fun e w' => e = .returned r ∧ Scope S w0 w' (X :: A' :: Bs) :=
  (d.at0 h.swap2).mono fun _ _ ⟨he, hs⟩ => ⟨he, hs.swap2⟩
theorem Scope.rowm (h : Scope S w0 w As) {k : Nat} {vs : List Value} {t : TypeId} (hi : Go.Proofs.Ytcbipbnomgdklaa.box k vs t ∈ As) : Row w k vs t := by
  obtain ⟨i, hi⟩ := List.mem_iff_getElem?.1 hi
  exact h.row i hi
theorem Scope.up1 {p n n' : Nat} {σ : MS} (h : Scope S w0 w (X :: refA p n σ :: Bs)) (hn : n ≤ n') : Scope S w0 w (X :: refA p n' σ :: Bs) :=
  (Scope.turn1 (B := refA p n' σ) h.swap2 (fun _ _ ⟨kv, h1, h2⟩ => ⟨kv, Nat.le_trans h1 hn, h2⟩)).swap2
end

theorem Scope.put3 {S : List Nat} {w0 w : World} {A X Y : HA} {Bs : List HA} {b : Nat} {t : TypeId} {z0 z1 z2 : Value} (h : Scope S w0 w (A :: X :: (Bs ++ [Y, Go.Proofs.Ytcbipbnomgdklaa.box b [z0, z1, z2] t]))) (v0 v1 v2 : Value) :
    Scope S w0 (((w.setCell ⟨b, 0, none⟩ v0).setCell ⟨b, 1, none⟩ v1).setCell ⟨b, 2, none⟩ v2) (A :: X :: (Bs ++ [Y, Go.Proofs.Ytcbipbnomgdklaa.box b [v0, v1, v2] t])) := by
  have h1 : Scope S w0 w ((A :: X :: (Bs ++ [Y])) ++ ([Go.Proofs.Ytcbipbnomgdklaa.box b [z0, z1, z2] t] ++ [])) := by simpa using h
  have h2 := h1.swap
  obtain ⟨f, hf, hd⟩ := h2.does
  obtain ⟨hr, rfl⟩ := stars_one hf
  have h3 : Scope S w0 _ ([Go.Proofs.Ytcbipbnomgdklaa.box b [v0, v1, v2] t] ++ ((A :: X :: (Bs ++ [Y])) ++ [])) := hd [Go.Proofs.Ytcbipbnomgdklaa.box b [v0, v1, v2] t] (((w.setCell ⟨b, 0, none⟩ v0).setCell ⟨b, 1, none⟩ v1).setCell ⟨b, 2, none⟩ v2)
    (After.intro1 ⟨[b], ⟨((hr.set 0 v0).set 1 v1).set 2 v2, rfl⟩, (((Chg.refl [b] w).setCell (.inl (by simp)) _).setCell (.inl (by simp)) _).setCell (.inl (by simp)) _, Own.refl _ _⟩)
  have h4 := h3.swap
  simpa using h4

def Stepped (S : List Nat) (w0 : World) (Bs : List HA) (m x n : Nat) (σ : MS) (e : Ending) (w' : World) : Prop :=
  e = .returned (.bool true) ∧ ∃ σ' : MS, σ'.log.length ≤ σ.log.length + 1 ∧ Scope S w0 w' (memA m σ' :: refA x (n + 2) σ' :: Bs)

theorem MS.swap_len (σ : MS) (who : Int) (l : Lc) (a b : Int) : (σ.swap who l a b).log.length ≤ σ.log.length + 1 := by
  unfold MS.swap
  split <;> simp [MS.put, MS.set]
theorem Scope.stepped {S : List Nat} {w0 w' : World} {Bs : List HA} {m x n n' : Nat} {σ σ' : MS} {b1 b2 : HA} (h : Scope S w0 w' (memA m σ' :: refA x n' σ' :: (Bs ++ [b1, b2]))) (hn : n' ≤ n + 2) (hlen : σ'.log.length ≤ σ.log.length + 1) :
    Stepped S w0 Bs m x n σ (.returned (.bool true)) w' :=
  ⟨rfl, σ', hlen, (Scope.drop (As := memA m σ' :: refA x n' σ' :: Bs) (Bs := [b1, b2]) h).up1 hn⟩

set_option maxHeartbeats 8000000 in
set_option maxRecDepth 20000 in
theorem step_any {S : List Nat} {w0 w : World} {Bs : List HA} {m x n : Nat} {σ : MS} {u : Us} (h : Scope S w0 w (memA m σ :: refA x n σ :: Bs)) (hu : u.wf) (hn : n ≤ 900000) (hl : σ.log.length ≤ 900000) :
    Calls Try.prog 20 #[ptr m, ptr x, u.val] w (Stepped S w0 Bs m x n σ) := by
  have s0 : Scope S w0 (w.alloc (.cells #[.int .i64 u.k, .int .i64 u.who, .int .i64 u.obj, .int .i64 u.i, .int .u64 u.n, .int .u64 u.m, .int .i64 u.flow, .int .i64 u.len, .int .i64 u.mark] 52)) (memA m σ :: refA x n σ :: (Bs ++ [box w.heap.size u.cells 52])) := h.box u.cells 52
  have S0 := Lib.hid s0; have Hu := Lib.hid hu
  clear h s0 hu
  unfold Us.val
  go_enter Try.func20, Try.ntmps20
  go_upto_region 1 with fail
  generalize w.alloc _ = W at S0 ⊢
  generalize w.heap.size = B0 at S0 ⊢
  go_cut [7, 8] (fun s7 s8 wx => ∃ B : Nat, s7 = .int .i64 u.by ∧ s8 = .pointer (some ⟨B, 0, none⟩) ∧ Scope S w0 wx (memA m σ :: refA x n σ :: (Bs ++ [box B0 u.cells 52, box B u.loc.cells 23])))
  case first =>
    have hu0 : UseAt B0 u W := UseAt.of_row (S0.out.rowm (by simp))
    refine wp_region_any (by kernel_rfl) ?_
    change wpAny _ _ _ _ _ _ _ W.drew
    have U0 : UseAt B0 u W.drew := hu0
    have S1 := Lib.hid S0.out.drew
    clear hu0 S0
    generalize W.drew = c0 at S1 U0 ⊢
    refine wpAny_of_U (S := UseAt B0 u) (U := [0, 1, 2, 3, 4, 5]) _ _ _ _ ?_
    refine wpAnyU_take (i := 0) (v := u.val) rfl (by kernel_rfl) (by kernel_rfl) (by kernel_rfl) (by kernel_rfl) (fun _ _ _ h => h) (Or.inl ⟨by rfl, fun w' hS => by (obtain ⟨s0, s1, s2, s3, s4, s5, s6, s7, s8⟩ := hS; go_simp)⟩) U0 ?_
    try simp only [Act.put, List.getElem_toArray, List.getElem_cons_succ, List.getElem_cons_zero, List.setIfInBounds_toArray, List.set_cons_zero, List.set_cons_succ]
    refine wpAnyU_take (i := 2) (v := u.val) rfl (by kernel_rfl) (by kernel_rfl) (by kernel_rfl) (by kernel_rfl) (fun _ _ _ h => h) (Or.inl ⟨by rfl, fun w' hS => by (obtain ⟨s0, s1, s2, s3, s4, s5, s6, s7, s8⟩ := hS; go_simp)⟩) U0 ?_
    try simp only [Act.put, List.getElem_toArray, List.getElem_cons_succ, List.getElem_cons_zero, List.setIfInBounds_toArray, List.set_cons_zero, List.set_cons_succ]
    refine wpAnyU_all (rs := [1, 4]) (by kernel_rfl) (by simp) (fun i hi => ?_)
    simp only [List.mem_cons, List.not_mem_nil, or_false] at hi
    rcases hi with rfl | rfl
    · refine wpOpU_step rfl rfl (fun K hK => ?_)
      go_simp
      refine (by_any u _).mono ?_
      rintro e c2 ⟨rfl, hc⟩
      have S2 := Lib.hid (S1.out.quiet hc)
      clear hc
      have U2 : UseAt B0 u c2 := UseAt.of_row (S2.out.rowm (by simp))
      refine hK _ _ ⟨fun _ => U2, ?_⟩
      clear hK K U0
      try simp only [Act.put, List.getElem_toArray, List.getElem_cons_succ, List.getElem_cons_zero, List.setIfInBounds_toArray, List.set_cons_zero, List.set_cons_succ]
      refine wpAnyU_all (rs := [3, 4]) (by kernel_rfl) (by simp) (fun i hi => ?_)
      simp only [List.mem_cons, List.not_mem_nil, or_false] at hi
      rcases hi with rfl | rfl
      · refine wpOpU_step rfl rfl (fun K hK => ?_)
        go_simp
        refine (loc_any u _).mono ?_
        rintro e c3 ⟨rfl, hc⟩
        have S3 := Lib.hid (S2.out.quiet hc)
        clear hc
        have U3 : UseAt B0 u c3 := UseAt.of_row (S3.out.rowm (by simp))
        refine hK _ _ ⟨fun _ => U3, ?_⟩
        clear hK K U2
        try simp only [Act.put, List.getElem_toArray, List.getElem_cons_succ, List.getElem_cons_zero, List.setIfInBounds_toArray, List.set_cons_zero, List.set_cons_succ]
        refine wpAnyU_all (rs := [4]) (by kernel_rfl) (by simp) (fun i hi => ?_)
        obtain rfl : i = 4 := by simpa using hi
        refine wpOpU_step rfl rfl (fun K hK => ?_)
        go_simp
        have S4 := Lib.hid (show Scope S w0 _ (memA m σ :: refA x n σ :: (Bs ++ [box B0 u.cells 52, box c3.heap.size [.int .i64 0, .int .i64 0, .int .i64 0] 23])) from by simpa using S3.out.box [.int .i64 0, .int .i64 0, .int .i64 0] 23)
        have U4 : UseAt B0 u (c3.alloc (.cells #[.int .i64 0, .int .i64 0, .int .i64 0] 23)) := UseAt.of_row (S4.out.rowm (by simp))
        refine hK _ _ ⟨fun _ => U4, ?_⟩
        clear hK K U3
        generalize (c3.alloc (.cells #[.int .i64 0, .int .i64 0, .int .i64 0] 23)) = c4 at S4 U4 ⊢
        generalize c3.heap.size = b4 at S4 ⊢
        try simp only [Act.put, List.getElem_toArray, List.getElem_cons_succ, List.getElem_cons_zero, List.setIfInBounds_toArray, List.set_cons_zero, List.set_cons_succ]
        refine wpAnyU_take (i := 5) (v := .int .i64 u.by) rfl (by kernel_rfl) (by kernel_rfl) (by kernel_rfl) (by kernel_rfl) (fun _ _ _ h => h) (Or.inl ⟨by rfl, fun w' hS => by go_simp⟩) U4 ?_
        try simp only [Act.put, List.getElem_toArray, List.getElem_cons_succ, List.getElem_cons_zero, List.setIfInBounds_toArray, List.set_cons_zero, List.set_cons_succ]
        refine wpAnyU_rest _ _ _ _ (fun j hj => ?_) ?_
        · simp at hj; rcases hj with rfl | rfl | rfl | rfl | rfl | rfl <;> rfl
        have rz := S4.out.rowm (k := b4) (vs := [.int .i64 0, .int .i64 0, .int .i64 0]) (t := 23) (by simp)
        have z0 := rz.free 0; have z1 := rz.free 1; have z2 := rz.free 2
        obtain ⟨y0, y1, y2⟩ := rz.cells3
        clear rz
        refine wpAny_all (rs := [6]) (by kernel_rfl) (by simp) (fun i hi => ?_)
        obtain rfl : i = 6 := by simpa using hi
        refine wpOpU_stepG rfl (by rfl) (fun K hK => ?_)
        go_simp
        refine hK _ _ ?_
        clear hK K
        try simp only [Act.put, List.getElem_toArray, List.getElem_cons_succ, List.getElem_cons_zero, List.setIfInBounds_toArray, List.set_cons_zero, List.set_cons_succ]
        refine wpAny_done (by kernel_rfl) ?_ _
        go_wp2_with fail
        go_meet
        exact ⟨b4, rfl, rfl, S4.out.put3 _ _ _⟩
      · refine wpOpU_step rfl rfl (fun K hK => ?_)
        go_simp
        have S5 := Lib.hid (show Scope S w0 _ (memA m σ :: refA x n σ :: (Bs ++ [box B0 u.cells 52, box c2.heap.size [.int .i64 0, .int .i64 0, .int .i64 0] 23])) from by simpa using S2.out.box [.int .i64 0, .int .i64 0, .int .i64 0] 23)
        have U5 : UseAt B0 u (c2.alloc (.cells #[.int .i64 0, .int .i64 0, .int .i64 0] 23)) := UseAt.of_row (S5.out.rowm (by simp))
        refine hK _ _ ⟨fun _ => U5, ?_⟩
        clear hK K U2
        generalize (c2.alloc (.cells #[.int .i64 0, .int .i64 0, .int .i64 0] 23)) = c5 at S5 U5 ⊢
        generalize c2.heap.size = b5 at S5 ⊢
        try simp only [Act.put, List.getElem_toArray, List.getElem_cons_succ, List.getElem_cons_zero, List.setIfInBounds_toArray, List.set_cons_zero, List.set_cons_succ]
        refine wpAnyU_all (rs := [3]) (by kernel_rfl) (by simp) (fun i hi => ?_)
        obtain rfl : i = 3 := by simpa using hi
        refine wpOpU_step rfl rfl (fun K hK => ?_)
        go_simp
        refine (loc_any u _).mono ?_
        rintro e c6 ⟨rfl, hc⟩
        have S6 := Lib.hid (S5.out.quiet hc)
        clear hc
        have U6 : UseAt B0 u c6 := UseAt.of_row (S6.out.rowm (by simp))
        refine hK _ _ ⟨fun _ => U6, ?_⟩
        clear hK K U5
        try simp only [Act.put, List.getElem_toArray, List.getElem_cons_succ, List.getElem_cons_zero, List.setIfInBounds_toArray, List.set_cons_zero, List.set_cons_succ]
        refine wpAnyU_take (i := 5) (v := .int .i64 u.by) rfl (by kernel_rfl) (by kernel_rfl) (by kernel_rfl) (by kernel_rfl) (fun _ _ _ h => h) (Or.inl ⟨by rfl, fun w' hS => by go_simp⟩) U6 ?_
        try simp only [Act.put, List.getElem_toArray, List.getElem_cons_succ, List.getElem_cons_zero, List.setIfInBounds_toArray, List.set_cons_zero, List.set_cons_succ]
        refine wpAnyU_rest _ _ _ _ (fun j hj => ?_) ?_
        · simp at hj; rcases hj with rfl | rfl | rfl | rfl | rfl | rfl <;> rfl
        have rz := S6.out.rowm (k := b5) (vs := [.int .i64 0, .int .i64 0, .int .i64 0]) (t := 23) (by simp)
        have z0 := rz.free 0; have z1 := rz.free 1; have z2 := rz.free 2
        obtain ⟨y0, y1, y2⟩ := rz.cells3
        clear rz
        refine wpAny_all (rs := [6]) (by kernel_rfl) (by simp) (fun i hi => ?_)
        obtain rfl : i = 6 := by simpa using hi
        refine wpOpU_stepG rfl (by rfl) (fun K hK => ?_)
        go_simp
        refine hK _ _ ?_
        clear hK K
        try simp only [Act.put, List.getElem_toArray, List.getElem_cons_succ, List.getElem_cons_zero, List.setIfInBounds_toArray, List.set_cons_zero, List.set_cons_succ]
        refine wpAny_done (by kernel_rfl) ?_ _
        go_wp2_with fail
        go_meet
        exact ⟨b5, rfl, rfl, S6.out.put3 _ _ _⟩
    · refine wpOpU_step rfl rfl (fun K hK => ?_)
      go_simp
      have S7 := Lib.hid (show Scope S w0 _ (memA m σ :: refA x n σ :: (Bs ++ [box B0 u.cells 52, box c0.heap.size [.int .i64 0, .int .i64 0, .int .i64 0] 23])) from by simpa using S1.out.box [.int .i64 0, .int .i64 0, .int .i64 0] 23)
      have U7 : UseAt B0 u (c0.alloc (.cells #[.int .i64 0, .int .i64 0, .int .i64 0] 23)) := UseAt.of_row (S7.out.rowm (by simp))
      refine hK _ _ ⟨fun _ => U7, ?_⟩
      clear hK K U0
      generalize (c0.alloc (.cells #[.int .i64 0, .int .i64 0, .int .i64 0] 23)) = c7 at S7 U7 ⊢
      generalize c0.heap.size = b7 at S7 ⊢
      try simp only [Act.put, List.getElem_toArray, List.getElem_cons_succ, List.getElem_cons_zero, List.setIfInBounds_toArray, List.set_cons_zero, List.set_cons_succ]
      refine wpAnyU_all (rs := [1]) (by kernel_rfl) (by simp) (fun i hi => ?_)
      obtain rfl : i = 1 := by simpa using hi
      refine wpOpU_step rfl rfl (fun K hK => ?_)
      go_simp
      refine (by_any u _).mono ?_
      rintro e c8 ⟨rfl, hc⟩
      have S8 := Lib.hid (S7.out.quiet hc)
      clear hc
      have U8 : UseAt B0 u c8 := UseAt.of_row (S8.out.rowm (by simp))
      refine hK _ _ ⟨fun _ => U8, ?_⟩
      clear hK K U7
      try simp only [Act.put, List.getElem_toArray, List.getElem_cons_succ, List.getElem_cons_zero, List.setIfInBounds_toArray, List.set_cons_zero, List.set_cons_succ]
      refine wpAnyU_all (rs := [3]) (by kernel_rfl) (by simp) (fun i hi => ?_)
      obtain rfl : i = 3 := by simpa using hi
      refine wpOpU_step rfl rfl (fun K hK => ?_)
      go_simp
      refine (loc_any u _).mono ?_
      rintro e c9 ⟨rfl, hc⟩
      have S9 := Lib.hid (S8.out.quiet hc)
      clear hc
      have U9 : UseAt B0 u c9 := UseAt.of_row (S9.out.rowm (by simp))
      refine hK _ _ ⟨fun _ => U9, ?_⟩
      clear hK K U8
      try simp only [Act.put, List.getElem_toArray, List.getElem_cons_succ, List.getElem_cons_zero, List.setIfInBounds_toArray, List.set_cons_zero, List.set_cons_succ]
      refine wpAnyU_take (i := 5) (v := .int .i64 u.by) rfl (by kernel_rfl) (by kernel_rfl) (by kernel_rfl) (by kernel_rfl) (fun _ _ _ h => h) (Or.inl ⟨by rfl, fun w' hS => by go_simp⟩) U9 ?_
      try simp only [Act.put, List.getElem_toArray, List.getElem_cons_succ, List.getElem_cons_zero, List.setIfInBounds_toArray, List.set_cons_zero, List.set_cons_succ]
      refine wpAnyU_rest _ _ _ _ (fun j hj => ?_) ?_
      · simp at hj; rcases hj with rfl | rfl | rfl | rfl | rfl | rfl <;> rfl
      have rz := S9.out.rowm (k := b7) (vs := [.int .i64 0, .int .i64 0, .int .i64 0]) (t := 23) (by simp)
      have z0 := rz.free 0; have z1 := rz.free 1; have z2 := rz.free 2
      obtain ⟨y0, y1, y2⟩ := rz.cells3
      clear rz
      refine wpAny_all (rs := [6]) (by kernel_rfl) (by simp) (fun i hi => ?_)
      obtain rfl : i = 6 := by simpa using hi
      refine wpOpU_stepG rfl (by rfl) (fun K hK => ?_)
      go_simp
      refine hK _ _ ?_
      clear hK K
      try simp only [Act.put, List.getElem_toArray, List.getElem_cons_succ, List.getElem_cons_zero, List.setIfInBounds_toArray, List.set_cons_zero, List.set_cons_succ]
      refine wpAny_done (by kernel_rfl) ?_ _
      go_wp2_with fail
      go_meet
      exact ⟨b7, rfl, rfl, S9.out.put3 _ _ _⟩
  case rest =>
    obtain ⟨B, rfl, rfl, s2⟩ := hcut
    have hu2 : UseAt B0 u wc := UseAt.of_row (s2.rowm (by simp))
    obtain ⟨d0, d1, d2, d3, d4, d5, d6, d7, d8⟩ := hu2
    have S2 := Lib.hid s2
    clear s2 S0
    go_wp2
    go_quiet ((first
      | (go_at_call_of 10 (Value.int .u64 u.n); exact Calls.quiet_of_same (few_any Hu.out.2.2.2.2.1 _))
      | (go_at_call_of 10 (Value.int .u64 u.m); exact Calls.quiet_of_same (few_any Hu.out.2.2.2.2.2.1 _))))
    go_wp2_with fail
    refine (what_any u (n := 10) (by omega) (by omega) _).mono ?_
    rintro e w3 ⟨he, hc⟩
    have S3 := Lib.hid ((S2.out.quiet ((Chg.refl _ _).drewN nq)).quiet hc)
    clear hc S2 d0 d1 d2 d3 d4 d5 d6 d7 d8
    obtain ⟨g3, h3, i3⟩ := (show Row w3 B u.loc.cells 23 from S3.out.rowm (by simp)).cells3
    have d3 : w3.cell? ⟨B0, 3, none⟩ = some (.int .i64 u.i) := (show Row w3 B0 u.cells 52 from S3.out.rowm (by simp)).cell rfl
    have hw := u.loc_wf Hu.out; have hfn := few_u Hu.out.2.2.2.2.1; have hfm := few_u Hu.out.2.2.2.2.2.1
    have Hw := Lib.hid hw; have Hn := Lib.hid hfn; have Hm := Lib.hid hfm
    clear hw hfn hfm
    have hm := mod_lt u.k (n := 10) (by omega)
    have hv : u.what 10 = 0 ∨ u.what 10 = 1 ∨ u.what 10 = 2 ∨ u.what 10 = 3 ∨ u.what 10 = 4 ∨ u.what 10 = 5 ∨ u.what 10 = 6 ∨ u.what 10 = 7 ∨ u.what 10 = 8 ∨ u.what 10 = 9 := by unfold Us.what; omega
    clear hm
    rcases hv with hv | hv | hv | hv | hv | hv | hv | hv | hv | hv
    · rw [hv] at he
      subst he
      clear hv
      go_wp2_with fail
      go_region_held3 (fun w' => w'.cell? ⟨B, 0, none⟩ = some (.int .i64 u.loc.k) ∧ w'.cell? ⟨B, 1, none⟩ = some (.int .i64 u.loc.a) ∧ w'.cell? ⟨B, 2, none⟩ = some (.int .i64 u.loc.b))
        (go_keep)
        (first
          | (go_at_call 15
             refine ((load_does u.by u.loc Hw.out (by omega)).at0 S3.out.drew).mono ?_
             rintro e w11 ⟨rfl, s11⟩
             obtain ⟨g11, h11, i11⟩ := (show Row w11 B u.loc.cells 23 from s11.rowm (by simp)).cells3
             have S11 := Lib.hid s11
             clear s11)
          | (go_at_call 32
             refine ((rload_does u.by u.loc (by omega) (by omega)).at1 S11.out).mono ?_
             rintro e v11 ⟨rfl, r11⟩
             obtain ⟨j11, k11, m11⟩ := (show Row v11 B u.loc.cells 23 from r11.rowm (by simp)).cells3
             have R11 := Lib.hid r11
             clear r11))
      go_wp2
      go_ret
      exact R11.out.stepped (by omega) (by simp [MS.put, MS.set])
    · rw [hv] at he
      subst he
      clear hv
      go_wp2_with fail
      go_region_held3 (fun w' => w'.cell? ⟨B, 0, none⟩ = some (.int .i64 u.loc.k) ∧ w'.cell? ⟨B, 1, none⟩ = some (.int .i64 u.loc.a) ∧ w'.cell? ⟨B, 2, none⟩ = some (.int .i64 u.loc.b))
        (go_keep)
        (first
          | (go_at_call 15
             refine ((load_does u.by u.loc Hw.out (by omega)).at0 S3.out.drew).mono ?_
             rintro e w12 ⟨rfl, s12⟩
             obtain ⟨g12, h12, i12⟩ := (show Row w12 B u.loc.cells 23 from s12.rowm (by simp)).cells3
             have S12 := Lib.hid s12
             clear s12)
          | (go_at_call 32
             refine ((rload_does u.by u.loc (by omega) (by omega)).at1 S12.out).mono ?_
             rintro e v12 ⟨rfl, r12⟩
             obtain ⟨j12, k12, m12⟩ := (show Row v12 B u.loc.cells 23 from r12.rowm (by simp)).cells3
             have R12 := Lib.hid r12
             clear r12))
      go_wp2
      go_ret
      exact R12.out.stepped (by omega) (by simp [MS.put, MS.set])
    · rw [hv] at he
      subst he
      clear hv
      go_wp2_with fail
      refine ((store_does u.by u.loc Hw.out (few u.n) Hn.out (by omega)).at0 S3.out).mono ?_
      rintro e w13 ⟨rfl, s13⟩
      obtain ⟨g13, h13, i13⟩ := (show Row w13 B u.loc.cells 23 from s13.rowm (by simp)).cells3
      have S13 := Lib.hid s13
      clear s13
      go_wp2_with fail
      refine ((rstore_does u.by u.loc (few u.n) (by omega) (by omega)).at1 S13.out).mono ?_
      rintro e w14 ⟨rfl, s14⟩
      obtain ⟨g14, h14, i14⟩ := (show Row w14 B u.loc.cells 23 from s14.rowm (by simp)).cells3
      have S14 := Lib.hid s14
      clear s14
      go_wp2_with fail
      go_region_held3 (fun w' => w'.cell? ⟨B, 0, none⟩ = some (.int .i64 u.loc.k) ∧ w'.cell? ⟨B, 1, none⟩ = some (.int .i64 u.loc.a) ∧ w'.cell? ⟨B, 2, none⟩ = some (.int .i64 u.loc.b))
        (go_keep)
        (first
          | (go_at_call 12
             refine ((peek_does u.loc Hw.out).at0 S14.out.drew).mono ?_
             rintro e w15 ⟨rfl, s15⟩
             obtain ⟨g15, h15, i15⟩ := (show Row w15 B u.loc.cells 23 from s15.rowm (by simp)).cells3
             have S15 := Lib.hid s15
             clear s15)
          | (go_at_call 34
             refine ((rpeek_does u.loc (by omega)).at1 S15.out).mono ?_
             rintro e v15 ⟨rfl, r15⟩
             obtain ⟨j15, k15, m15⟩ := (show Row v15 B u.loc.cells 23 from r15.rowm (by simp)).cells3
             have R15 := Lib.hid r15
             clear r15))
      go_wp2
      go_ret
      exact R15.out.stepped (by omega) (by simp [MS.put, MS.set])
    · rw [hv] at he
      subst he
      clear hv
      by_cases hp : u.i.tmod 2 = 0
      · go_wp2_with fail
        refine ((rpeek_does u.loc (by omega)).at1 S3.out).mono ?_
        rintro e w16 ⟨rfl, s16⟩
        obtain ⟨g16, h16, i16⟩ := (show Row w16 B u.loc.cells 23 from s16.rowm (by simp)).cells3
        have S16 := Lib.hid s16
        clear s16
        go_wp2_with fail
        go_region_held3 (fun w' => w'.cell? ⟨B, 0, none⟩ = some (.int .i64 u.loc.k) ∧ w'.cell? ⟨B, 1, none⟩ = some (.int .i64 u.loc.a) ∧ w'.cell? ⟨B, 2, none⟩ = some (.int .i64 u.loc.b))
          (go_keep)
          (first
            | (go_at_call 11
               refine ((swap_does u.by u.loc Hw.out (σ.num u.loc) (few u.m) Hm.out (by omega)).at0 S16.out.drew).mono ?_
               rintro e w17 ⟨rfl, s17⟩
               obtain ⟨g17, h17, i17⟩ := (show Row w17 B u.loc.cells 23 from s17.rowm (by simp)).cells3
               have S17 := Lib.hid s17
               clear s17)
            | (go_at_call 35
               refine ((rswap_does u.by u.loc (σ.num u.loc) (few u.m) (by omega) (by omega)).at1 S17.out).mono ?_
               rintro e v17 ⟨rfl, r17⟩
               obtain ⟨j17, k17, m17⟩ := (show Row v17 B u.loc.cells 23 from r17.rowm (by simp)).cells3
               have R17 := Lib.hid r17
               clear r17))
        go_wp2
        go_ret
        exact R17.out.stepped (by omega) (by exact MS.swap_len _ _ _ _ _)
      · go_wp2_with fail
        go_region_held3 (fun w' => w'.cell? ⟨B, 0, none⟩ = some (.int .i64 u.loc.k) ∧ w'.cell? ⟨B, 1, none⟩ = some (.int .i64 u.loc.a) ∧ w'.cell? ⟨B, 2, none⟩ = some (.int .i64 u.loc.b))
          (go_keep)
          (first
            | (go_at_call 11
               refine ((swap_does u.by u.loc Hw.out (few u.n) (few u.m) Hm.out (by omega)).at0 S3.out.drew).mono ?_
               rintro e w18 ⟨rfl, s18⟩
               obtain ⟨g18, h18, i18⟩ := (show Row w18 B u.loc.cells 23 from s18.rowm (by simp)).cells3
               have S18 := Lib.hid s18
               clear s18)
            | (go_at_call 35
               refine ((rswap_does u.by u.loc (few u.n) (few u.m) (by omega) (by omega)).at1 S18.out).mono ?_
               rintro e v18 ⟨rfl, r18⟩
               obtain ⟨j18, k18, m18⟩ := (show Row v18 B u.loc.cells 23 from r18.rowm (by simp)).cells3
               have R18 := Lib.hid r18
               clear r18))
        go_wp2
        go_ret
        exact R18.out.stepped (by omega) (by exact MS.swap_len _ _ _ _ _)
    · rw [hv] at he
      subst he
      clear hv
      by_cases hp : u.i.tmod 2 = 0
      · go_wp2_with fail
        refine ((rpeek_does u.loc (by omega)).at1 S3.out).mono ?_
        rintro e w19 ⟨rfl, s19⟩
        obtain ⟨g19, h19, i19⟩ := (show Row w19 B u.loc.cells 23 from s19.rowm (by simp)).cells3
        have S19 := Lib.hid s19
        clear s19
        go_wp2_with fail
        go_region_held3 (fun w' => w'.cell? ⟨B, 0, none⟩ = some (.int .i64 u.loc.k) ∧ w'.cell? ⟨B, 1, none⟩ = some (.int .i64 u.loc.a) ∧ w'.cell? ⟨B, 2, none⟩ = some (.int .i64 u.loc.b))
          (go_keep)
          (first
            | (go_at_call 11
               refine ((swap_does u.by u.loc Hw.out (σ.num u.loc) (few u.m) Hm.out (by omega)).at0 S19.out.drew).mono ?_
               rintro e w20 ⟨rfl, s20⟩
               obtain ⟨g20, h20, i20⟩ := (show Row w20 B u.loc.cells 23 from s20.rowm (by simp)).cells3
               have S20 := Lib.hid s20
               clear s20)
            | (go_at_call 35
               refine ((rswap_does u.by u.loc (σ.num u.loc) (few u.m) (by omega) (by omega)).at1 S20.out).mono ?_
               rintro e v20 ⟨rfl, r20⟩
               obtain ⟨j20, k20, m20⟩ := (show Row v20 B u.loc.cells 23 from r20.rowm (by simp)).cells3
               have R20 := Lib.hid r20
               clear r20))
        go_wp2
        go_ret
        exact R20.out.stepped (by omega) (by exact MS.swap_len _ _ _ _ _)
      · go_wp2_with fail
        go_region_held3 (fun w' => w'.cell? ⟨B, 0, none⟩ = some (.int .i64 u.loc.k) ∧ w'.cell? ⟨B, 1, none⟩ = some (.int .i64 u.loc.a) ∧ w'.cell? ⟨B, 2, none⟩ = some (.int .i64 u.loc.b))
          (go_keep)
          (first
            | (go_at_call 11
               refine ((swap_does u.by u.loc Hw.out (few u.n) (few u.m) Hm.out (by omega)).at0 S3.out.drew).mono ?_
               rintro e w21 ⟨rfl, s21⟩
               obtain ⟨g21, h21, i21⟩ := (show Row w21 B u.loc.cells 23 from s21.rowm (by simp)).cells3
               have S21 := Lib.hid s21
               clear s21)
            | (go_at_call 35
               refine ((rswap_does u.by u.loc (few u.n) (few u.m) (by omega) (by omega)).at1 S21.out).mono ?_
               rintro e v21 ⟨rfl, r21⟩
               obtain ⟨j21, k21, m21⟩ := (show Row v21 B u.loc.cells 23 from r21.rowm (by simp)).cells3
               have R21 := Lib.hid r21
               clear r21))
        go_wp2
        go_ret
        exact R21.out.stepped (by omega) (by exact MS.swap_len _ _ _ _ _)
    · rw [hv] at he
      subst he
      clear hv
      go_wp2_with fail
      go_region_held3 (fun w' => w'.cell? ⟨B, 0, none⟩ = some (.int .i64 u.loc.k) ∧ w'.cell? ⟨B, 1, none⟩ = some (.int .i64 u.loc.a) ∧ w'.cell? ⟨B, 2, none⟩ = some (.int .i64 u.loc.b))
        (go_keep)
        (first
          | (go_at_call 17
             refine ((add_does u.by u.loc Hw.out (few u.n) Hn.out (by omega)).at0 S3.out.drew).mono ?_
             rintro e w22 ⟨rfl, s22⟩
             obtain ⟨g22, h22, i22⟩ := (show Row w22 B u.loc.cells 23 from s22.rowm (by simp)).cells3
             have S22 := Lib.hid s22
             clear s22)
          | (go_at_call 36
             refine ((radd_does u.by u.loc (few u.n) (by omega) (by omega)).at1 S22.out).mono ?_
             rintro e v22 ⟨rfl, r22⟩
             obtain ⟨j22, k22, m22⟩ := (show Row v22 B u.loc.cells 23 from r22.rowm (by simp)).cells3
             have R22 := Lib.hid r22
             clear r22))
      go_wp2
      go_ret
      exact R22.out.stepped (by omega) (by simp [MS.put, MS.set])
    · rw [hv] at he
      subst he
      clear hv
      go_wp2_with fail
      go_region_held3 (fun w' => w'.cell? ⟨B, 0, none⟩ = some (.int .i64 u.loc.k) ∧ w'.cell? ⟨B, 1, none⟩ = some (.int .i64 u.loc.a) ∧ w'.cell? ⟨B, 2, none⟩ = some (.int .i64 u.loc.b))
        (go_keep)
        (first
          | (go_at_call 16
             refine ((take_does u.by u.loc Hw.out (few u.n) Hn.out (by omega)).at0 S3.out.drew).mono ?_
             rintro e w23 ⟨rfl, s23⟩
             obtain ⟨g23, h23, i23⟩ := (show Row w23 B u.loc.cells 23 from s23.rowm (by simp)).cells3
             have S23 := Lib.hid s23
             clear s23)
          | (go_at_call 37
             refine ((rtake_does u.by u.loc (few u.n) (by omega) (by omega)).at1 S23.out).mono ?_
             rintro e v23 ⟨rfl, r23⟩
             obtain ⟨j23, k23, m23⟩ := (show Row v23 B u.loc.cells 23 from r23.rowm (by simp)).cells3
             have R23 := Lib.hid r23
             clear r23))
      go_wp2
      go_ret
      exact R23.out.stepped (by omega) (by simp [MS.put, MS.set])
    · rw [hv] at he
      subst he
      clear hv
      go_wp2_with fail
      refine ((read_does u.by u.loc (by omega)).at0 S3.out).mono ?_
      rintro e w24 ⟨rfl, s24⟩
      obtain ⟨g24, h24, i24⟩ := (show Row w24 B u.loc.cells 23 from s24.rowm (by simp)).cells3
      have S24 := Lib.hid s24
      clear s24
      go_wp2_with fail
      refine ((rlog_does u.by 5 u.loc (by omega)).at1 S24.out).mono ?_
      rintro e w25 ⟨rfl, s25⟩
      obtain ⟨g25, h25, i25⟩ := (show Row w25 B u.loc.cells 23 from s25.rowm (by simp)).cells3
      have S25 := Lib.hid s25
      clear s25
      go_wp2_with fail
      go_region_held3 (fun w' => w'.cell? ⟨B, 0, none⟩ = some (.int .i64 u.loc.k) ∧ w'.cell? ⟨B, 1, none⟩ = some (.int .i64 u.loc.a) ∧ w'.cell? ⟨B, 2, none⟩ = some (.int .i64 u.loc.b))
        (go_keep)
        (first
          | (go_at_call 12
             refine ((peek_does u.loc Hw.out).at0 S25.out.drew).mono ?_
             rintro e w26 ⟨rfl, s26⟩
             obtain ⟨g26, h26, i26⟩ := (show Row w26 B u.loc.cells 23 from s26.rowm (by simp)).cells3
             have S26 := Lib.hid s26
             clear s26)
          | (go_at_call 34
             refine ((rpeek_does u.loc (by omega)).at1 S26.out).mono ?_
             rintro e v26 ⟨rfl, r26⟩
             obtain ⟨j26, k26, m26⟩ := (show Row v26 B u.loc.cells 23 from r26.rowm (by simp)).cells3
             have R26 := Lib.hid r26
             clear r26))
      go_wp2
      go_ret
      exact R26.out.stepped (by omega) (by simp [MS.put, MS.set])
    · rw [hv] at he
      subst he
      clear hv
      go_wp2_with fail
      refine ((write_does u.by u.loc (by omega)).at0 S3.out).mono ?_
      rintro e w27 ⟨rfl, s27⟩
      obtain ⟨g27, h27, i27⟩ := (show Row w27 B u.loc.cells 23 from s27.rowm (by simp)).cells3
      have S27 := Lib.hid s27
      clear s27
      go_wp2_with fail
      refine ((rlog_does u.by 6 u.loc (by omega)).at1 S27.out).mono ?_
      rintro e w28 ⟨rfl, s28⟩
      obtain ⟨g28, h28, i28⟩ := (show Row w28 B u.loc.cells 23 from s28.rowm (by simp)).cells3
      have S28 := Lib.hid s28
      clear s28
      go_wp2_with fail
      go_region_held3 (fun w' => w'.cell? ⟨B, 0, none⟩ = some (.int .i64 u.loc.k) ∧ w'.cell? ⟨B, 1, none⟩ = some (.int .i64 u.loc.a) ∧ w'.cell? ⟨B, 2, none⟩ = some (.int .i64 u.loc.b))
        (go_keep)
        (first
          | (go_at_call 12
             refine ((peek_does u.loc Hw.out).at0 S28.out.drew).mono ?_
             rintro e w29 ⟨rfl, s29⟩
             obtain ⟨g29, h29, i29⟩ := (show Row w29 B u.loc.cells 23 from s29.rowm (by simp)).cells3
             have S29 := Lib.hid s29
             clear s29)
          | (go_at_call 34
             refine ((rpeek_does u.loc (by omega)).at1 S29.out).mono ?_
             rintro e v29 ⟨rfl, r29⟩
             obtain ⟨j29, k29, m29⟩ := (show Row v29 B u.loc.cells 23 from r29.rowm (by simp)).cells3
             have R29 := Lib.hid r29
             clear r29))
      go_wp2
      go_ret
      exact R29.out.stepped (by omega) (by simp [MS.put, MS.set])
    · rw [hv] at he
      subst he
      clear hv
      go_wp2_with fail
      go_region_held3 (fun w' => w'.cell? ⟨B, 0, none⟩ = some (.int .i64 u.loc.k) ∧ w'.cell? ⟨B, 1, none⟩ = some (.int .i64 u.loc.a) ∧ w'.cell? ⟨B, 2, none⟩ = some (.int .i64 u.loc.b))
        (go_keep)
        (first
          | (go_at_call 12
             refine ((peek_does u.loc Hw.out).at0 S3.out.drew).mono ?_
             rintro e w30 ⟨rfl, s30⟩
             obtain ⟨g30, h30, i30⟩ := (show Row w30 B u.loc.cells 23 from s30.rowm (by simp)).cells3
             have S30 := Lib.hid s30
             clear s30)
          | (go_at_call 34
             refine ((rpeek_does u.loc (by omega)).at1 S30.out).mono ?_
             rintro e v30 ⟨rfl, r30⟩
             obtain ⟨j30, k30, m30⟩ := (show Row v30 B u.loc.cells 23 from r30.rowm (by simp)).cells3
             have R30 := Lib.hid r30
             clear r30))
      go_wp2
      go_ret
      exact R30.out.stepped (by omega) (by omega)
end Go.Proofs.Ytcbipbnomgdklaa
