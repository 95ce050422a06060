/- step of layer 19: a use of a table and of the reference's: they tell the same; awake of layer 19. -/
import Derived.Test.YtjipjhmcpjffcabTabS
set_option linter.unusedSimpArgs false
set_option linter.unusedVariables false
namespace Go.Proofs.Ytjipjhmcpjffcab
open Go Go.RowKit Go.Maps

theorem tmod_emod (a b : Int) : a.tmod b % b = a % b := by
  rw [Int.tmod_def, Int.sub_emod, Int.mul_emod_right, Int.sub_zero, Int.emod_emod]
theorem tmod_b (a : Int) {b : Int} (hb : 0 < b) : -b < a.tmod b ∧ a.tmod b < b := by
  refine ⟨?_, Int.tmod_lt_of_pos a hb⟩
  by_cases h : a < 0
  · have h1 := Int.tmod_lt_of_pos (-a) hb
    rw [Int.neg_tmod] at h1
    omega
  · have := Int.tmod_nonneg b (Int.not_lt.1 h)
    omega
theorem shard_is (a : Int) {b : Int} (hb : 0 < b) : (a.tmod b + b) % b = a % b := by
  rw [Int.add_emod_right, tmod_emod]
theorem shard_neg (a : Int) {b : Int} (hb : 0 < b) (h : a.tmod b < 0) : a.tmod b + b = a % b := by
  have h1 := tmod_b a hb
  rw [← tmod_emod a b, ← Int.add_emod_right, Int.emod_eq_of_lt (by omega) (by omega)]
theorem shard_pos (a : Int) {b : Int} (hb : 0 < b) (h : ¬ a.tmod b < 0) : a.tmod b = a % b := by
  have h1 := tmod_b a hb
  rw [← tmod_emod a b, Int.emod_eq_of_lt (by omega) (by omega)]

section
variable {p q m x n : Nat} {sh sl : Int} {σ : MS}
set_option maxHeartbeats 1000000 in
theorem tshard_does (f : Int) (h1 : 1 ≤ sh) (h4 : sh ≤ 4) : Does Try.prog [tabA p m sh sl σ] 11 #[ptr p, .int .i64 f] (.int .i64 (f % sh)) [tabA p m sh sl σ] := Does.pack fun S w0 w h => by
  have c1 : w.cell? ⟨p, 1, none⟩ = some (.int .i64 sh) := (h.row 1 rfl).cell rfl
  have H0 := Lib.hid h
  obtain ⟨b0, b1⟩ := tmod_b f (b := sh) (by omega)
  have e := shard_is f (b := sh) (by omega)
  have Ee := Lib.hid e
  clear h e
  go_enter Try.func11, Try.ntmps11
  go_wp2
  go_quiet (fail)
  go_wp2
  go_ret
  refine Ends.mk' (by rw [← Ee.out]; rfl) [] ?_
  simpa using H0.out.quiet ((Chg.refl _ _).drewN nq)
set_option maxHeartbeats 1000000 in
theorem rtshard_does (f : Int) (h1 : 1 ≤ sh) (h4 : sh ≤ 4) : Does Try.prog [rtabA q x n sh sl σ] 13 #[ptr q, .int .i64 f] (.int .i64 (f % sh)) [rtabA q x n sh sl σ] := Does.pack fun S w0 w h => by
  have c1 : w.cell? ⟨q, 1, none⟩ = some (.int .i64 sh) := (h.row 1 rfl).cell rfl
  have H0 := Lib.hid h
  obtain ⟨b0, b1⟩ := tmod_b f (b := sh) (by omega)
  clear h
  by_cases c : f.tmod sh < 0
  · have e := shard_neg f (by omega) c
    have Ee := Lib.hid e
    clear e
    go_enter Try.func13, Try.ntmps13
    go_wp2
    go_ret
    exact Ends.mk' (by rw [← Ee.out]; rfl) [] (by simpa using H0.out)
  · have e := shard_pos f (by omega) c
    have Ee := Lib.hid e
    clear e
    go_enter Try.func13, Try.ntmps13
    go_wp2
    go_ret
    exact Ends.mk' (by rw [← Ee.out]; rfl) [] (by simpa using H0.out)
theorem tslots_does : Does Try.prog [tabA p m sh sl σ] 14 #[ptr p] (.int .i64 sl) [tabA p m sh sl σ] := Does.pack fun S w0 w h => by
  have c1 : w.cell? ⟨p, 2, none⟩ = some (.int .i64 sl) := (h.row 1 rfl).cell rfl
  have H0 := Lib.hid h
  clear h
  go_enter Try.func14, Try.ntmps14
  go_wp2
  go_ret
  exact Ends.mk [] (by simpa using H0.out)
end

def Us.tflow (u : Us) : Int := if u.n % 7 = 0 then wrap64 u.m else if u.n % 7 = 1 then 1048574 + u.m % 4 else mod u.flow 9
def Us.tobj (u : Us) : Int := if u.n / 7 % 7 = 0 then u.obj else if u.n / 7 % 7 = 1 then 4294967293 + u.m % 4 else mod u.obj 9
theorem Us.tobj_i {u : Us} (h : u.wf) : I64 u.tobj := by
  unfold Us.tobj
  split
  · exact h.2.2.1
  split
  · unfold I64; omega
  · exact mod_i _ (by omega) (by omega)

set_option maxHeartbeats 1000000 in
theorem flow19_pure {u : Us} (hu : u.wf) : Pure Try.prog 38 #[u.val] (.int .i64 u.tflow) := fun w => by
  obtain ⟨c0, c1, c2, c3, c4, c5, c6, c7, c8⟩ := (Row.new w u.cells 39).cells9
  have n0 := hu.2.2.2.2.1.1; have m0 := hu.2.2.2.2.2.1.1; have m1 := hu.2.2.2.2.2.1.2
  unfold Us.cells at *
  unfold Us.val Us.tflow
  have q0 : 0 ≤ u.n / 7 := by omega
  have n1 := hu.2.2.2.2.1.2
  have t0 : u.n.tdiv 7 = u.n / 7 := Int.tdiv_eq_ediv_of_nonneg n0
  have t1 : IntKind.u64.wrap (u.n / 7) = u.n / 7 := by rw [IntKind.wrap_u64]; omega
  have t2 : (u.n / 7).tmod 7 = u.n / 7 % 7 := Int.tmod_eq_emod_of_nonneg q0
  clear hu
  by_cases z : u.n % 7 = 0
  · rw [if_pos z]
    go_enter Try.func38, Try.ntmps38
    go_wp2
    go_ret
    exact ⟨ret_int (by rfl), (Chg.refl _ _).alloc _⟩
  · rw [if_neg z]
    by_cases y : u.n % 7 = 1
    · rw [if_pos y]
      go_enter Try.func38, Try.ntmps38
      go_wp2
      go_ret
      exact ⟨ret_int (by rfl), (Chg.refl _ _).alloc _⟩
    · rw [if_neg y]
      go_enter Try.func38, Try.ntmps38
      go_wp2_with fail
      refine (mod_any (v := u.flow) (n := 9) (by omega) (by omega) _).mono ?_
      rintro e w1 ⟨rfl, rfl⟩
      go_wp2_with fail
      go_ret
      exact ⟨rfl, (Chg.refl _ _).alloc _⟩

set_option maxHeartbeats 1000000 in
theorem obj19_pure {u : Us} (hu : u.wf) : Pure Try.prog 39 #[u.val] (.int .i64 u.tobj) := fun w => by
  obtain ⟨c0, c1, c2, c3, c4, c5, c6, c7, c8⟩ := (Row.new w u.cells 39).cells9
  have n0 := hu.2.2.2.2.1.1; have m0 := hu.2.2.2.2.2.1.1; have m1 := hu.2.2.2.2.2.1.2
  unfold Us.cells at *
  unfold Us.val Us.tobj
  have q0 : 0 ≤ u.n / 7 := by omega
  have n1 := hu.2.2.2.2.1.2
  have t0 : u.n.tdiv 7 = u.n / 7 := Int.tdiv_eq_ediv_of_nonneg n0
  have t1 : IntKind.u64.wrap (u.n / 7) = u.n / 7 := by rw [IntKind.wrap_u64]; omega
  have t2 : (u.n / 7).tmod 7 = u.n / 7 % 7 := Int.tmod_eq_emod_of_nonneg q0
  clear hu
  by_cases z : u.n / 7 % 7 = 0
  · rw [if_pos z]
    go_enter Try.func39, Try.ntmps39
    go_wp2
    go_ret
    exact ⟨ret_int (by rfl), (Chg.refl _ _).alloc _⟩
  · rw [if_neg z]
    by_cases y : u.n / 7 % 7 = 1
    · rw [if_pos y]
      go_enter Try.func39, Try.ntmps39
      go_wp2
      go_ret
      exact ⟨ret_int (by rfl), (Chg.refl _ _).alloc _⟩
    · rw [if_neg y]
      go_enter Try.func39, Try.ntmps39
      go_wp2_with fail
      refine (mod_any (v := u.obj) (n := 9) (by omega) (by omega) _).mono ?_
      rintro e w1 ⟨rfl, rfl⟩
      go_wp2_with fail
      go_ret
      exact ⟨rfl, (Chg.refl _ _).alloc _⟩

/-! ### awake -/
def aw1 : MS := MS.zero.tput 0 0 1 5 3
def aw2 : MS := aw1.tput 0 0 0 (-1) 3
def aw3 : MS := aw2.swap 0 (mutL 1) 0 1
def aw4 : MS := aw3.swap 1 (mutL 1) 0 1
def aw5 : MS := aw4.put 1 1 (slotL 0 1)
theorem aw_slot : slotR (aw4.num (slotL 0 1)) = .tuple #[.int .i64 5, .int .i64 3, .bool true] := by
  have e1 : slotF (aw4.num (slotL 0 1)) = 5 := by decide
  have e2 : slotO (aw4.num (slotL 0 1)) = 3 := by decide
  have e3 : slotB (aw4.num (slotL 0 1)) = true := by decide
  unfold slotR
  rw [e1, e2, e3]

set_option maxHeartbeats 1000000 in
theorem awake19_any (w : World) : Calls Try.prog 10 #[] w fun e w' => e = .returned (.bool true) ∧ Chg [] w w' := by
  have hi : ∀ k : Int, -100 ≤ k → k ≤ 100 → I64 k := fun k _ _ => by unfold I64; omega
  have H0 := Lib.hid (Scope.empty w); have Hi := Lib.hid hi
  clear hi
  go_enter Try.func10, Try.ntmps10
  go_wp2_with fail
  refine (new_scope H0.out).mono ?_
  rintro e w1 ⟨m, rfl, s1⟩
  have S1 := Lib.hid s1
  clear s1
  go_wp2_with fail
  refine (tnew_scope S1.out m 2 2).mono ?_
  rintro e w2 ⟨p, rfl, s2⟩
  rw [show cl 2 = 2 from by decide] at s2
  have S2 := Lib.hid (show Scope [] w w2 [tabA p m 2 2 MS.zero] from Scope.shut1 (As := [memA m MS.zero, box p [ptr m, .int .i64 2, .int .i64 2] 71]) (Bs := []) s2)
  clear s2
  go_wp2_with fail
  refine ((tput_does 0 0 1 5 3 (Hi.out 0 (by omega) (by omega)) (Hi.out 1 (by omega) (by omega)) (Hi.out 3 (by omega) (by omega)) (by decide)).at0 S2.out).mono ?_
  rintro e w3 ⟨he, s3⟩
  rw [show goodB 5 3 = true from by decide] at he
  subst he
  have S3 := Lib.hid (show Scope [] w w3 [tabA p m 2 2 aw1] from s3)
  clear s3
  go_wp2_with fail
  refine ((tput_does 0 0 0 (-1) 3 (Hi.out 0 (by omega) (by omega)) (Hi.out 0 (by omega) (by omega)) (Hi.out 3 (by omega) (by omega)) (by decide)).at0 S3.out).mono ?_
  rintro e w4 ⟨he, s4⟩
  rw [show goodB (-1) 3 = false from by decide] at he
  subst he
  have S4 := Lib.hid (show Scope [] w w4 [tabA p m 2 2 aw2] from s4)
  clear s4
  go_wp2_with fail
  refine ((tlock_does 0 1 (Hi.out 1 (by omega) (by omega)) (by decide)).at0 S4.out).mono ?_
  rintro e w5 ⟨he, s5⟩
  rw [show decide (aw2.num (mutL 1) = 0) = true from by decide] at he
  subst he
  have S5 := Lib.hid (show Scope [] w w5 [tabA p m 2 2 aw3] from s5)
  clear s5
  go_wp2_with fail
  refine ((tlock_does 1 1 (Hi.out 1 (by omega) (by omega)) (by decide)).at0 S5.out).mono ?_
  rintro e w6 ⟨he, s6⟩
  rw [show decide (aw3.num (mutL 1) = 0) = false from by decide] at he
  subst he
  have S6 := Lib.hid (show Scope [] w w6 [tabA p m 2 2 aw4] from s6)
  clear s6
  go_wp2_with fail
  refine ((tslot_does 1 0 1 (Hi.out 0 (by omega) (by omega)) (Hi.out 1 (by omega) (by omega)) (by decide) (by unfold U64; decide)).at0 S6.out).mono ?_
  rintro e w7 ⟨he, s7⟩
  rw [aw_slot] at he
  subst he
  have S7 := Lib.hid (show Scope [] w w7 [tabA p m 2 2 aw5] from s7)
  clear s7
  go_wp2_with fail
  refine (tslots_does.at0 S7.out).mono ?_
  rintro e w8 ⟨rfl, s8⟩
  have S8 := Lib.hid s8
  clear s8
  go_wp2_with fail
  refine ((tshard_does (-1) (by omega) (by omega)).at0 S8.out).mono ?_
  rintro e w9 ⟨he, s9⟩
  rw [show (-1 : Int) % 2 = 1 from rfl] at he
  subst he
  have S9 := Lib.hid s9
  clear s9
  go_wp2_with fail
  refine ((tshard_does 5 (by omega) (by omega)).at0 S9.out).mono ?_
  rintro e w10 ⟨he, s10⟩
  rw [show (5 : Int) % 2 = 1 from rfl] at he
  subst he
  have S10 := Lib.hid s10
  clear s10
  go_wp2_with fail
  refine (len0 (σ := aw5) S10.out.open1 (by decide)).mono ?_
  rintro e w11 ⟨he, rfl⟩
  rw [show ((aw5.log.length : Nat) : Int) = 4 from by decide] at he
  subst he
  go_wp2
  go_ret
  exact ⟨rfl, S10.out.1⟩
theorem awake19_scope {S : List Nat} {w0 w : World} {As : List HA} (h : Scope S w0 w As) : Calls Try.prog 10 #[] w fun e w' => e = .returned (.bool true) ∧ Scope S w0 w' As :=
  (awake19_any w).mono fun _ _ ⟨he, hc⟩ => ⟨he, h.quiet hc⟩

/-! ### step -/
def Stepped19 (S : List Nat) (w0 : World) (Bs : List HA) (p m q x n : Nat) (sh sl : Int) (σ : MS) (e : Ending) (w' : World) : Prop :=
  e = .returned (.bool true) ∧ ∃ σ' : MS, σ'.log.length ≤ σ.log.length + 2 ∧ Scope S w0 w' (tabA p m sh sl σ' :: rtabA q x (n + 2) sh sl σ' :: Bs)
theorem Scope.rtab_up {S : List Nat} {w0 w : World} {X : HA} {Bs : List HA} {q x n n' : Nat} {sh sl : Int} {σ : MS} (h : Scope S w0 w (X :: rtabA q x n sh sl σ :: Bs)) (hn : n ≤ n') : Scope S w0 w (X :: rtabA q x n' sh sl σ :: Bs) :=
  (Scope.turn1 (B := rtabA q x n' sh sl σ) h.swap2 (fun w fp hh => by
    obtain ⟨f, g, ⟨kv, k1, k2, k3⟩, h2, h3, h4⟩ := hh
    exact ⟨f, g, ⟨kv, by omega, k2, k3⟩, h2, h3, h4⟩)).swap2
theorem Scope.tab_u64 {S : List Nat} {w0 w : World} {Bs : List HA} {p m : Nat} {sh sl : Int} {σ : MS} (h : Scope S w0 w (tabA p m sh sl σ :: Bs)) {l : Lc} (hl : l.wf) : U64 (σ.num l) := by
  obtain ⟨f, hm, _⟩ := (Scope.open1 h).get 0 rfl
  exact MemAt.num_u64 hm hl
theorem Scope.stepped19 {S : List Nat} {w0 w' : World} {Bs : List HA} {p m q x n n' : Nat} {sh sl : Int} {σ σ' : MS} {b1 : HA} (h : Scope S w0 w' (tabA p m sh sl σ' :: rtabA q x n' sh sl σ' :: (Bs ++ [b1]))) (hn : n' ≤ n + 2) (hlen : σ'.log.length ≤ σ.log.length + 2) :
    Stepped19 S w0 Bs p m q x n sh sl σ (.returned (.bool true)) w' :=
  ⟨rfl, σ', hlen, (Scope.drop (As := tabA p m sh sl σ' :: rtabA q x n' sh sl σ' :: Bs) (Bs := [b1]) h).rtab_up hn⟩

theorem MS.swap_len (σ : MS) (who : Int) (l : Lc) (a b : Int) : (σ.swap who l a b).log.length ≤ σ.log.length + 1 := by
  unfold MS.swap
  split <;> simp [MS.put, MS.set]
set_option maxHeartbeats 8000000 in
set_option maxRecDepth 20000 in
theorem step19_any {S : List Nat} {w0 w : World} {Bs : List HA} {p m q x n : Nat} {sh sl : Int} {σ : MS} {u : Us} (h : Scope S w0 w (tabA p m sh sl σ :: rtabA q x n sh sl σ :: Bs)) (hu : u.wf) (hn : n ≤ 900000) (hl : σ.log.length ≤ 900000) :
    Calls Try.prog 22 #[ptr p, ptr q, u.val] w (Stepped19 S w0 Bs p m q x n sh sl σ) := by
  have s0 : Scope S w0 (w.alloc (.cells #[.int .i64 u.k, .int .i64 u.who, .int .i64 u.obj, .int .i64 u.i, .int .u64 u.n, .int .u64 u.m, .int .i64 u.flow, .int .i64 u.len, .int .i64 u.mark] 39)) (tabA p m sh sl σ :: rtabA q x n sh sl σ :: (Bs ++ [box w.heap.size u.cells 39])) := h.box u.cells 39
  have ht := Us.thing_i hu; have hp := Us.place_i hu; have ho := Us.tobj_i hu
  have S0 := Lib.hid s0; have Hu := Lib.hid hu; have Ht := Lib.hid ht; have Hp := Lib.hid hp; have Ho := Lib.hid ho
  clear h s0 hu ht hp ho
  unfold Us.val
  go_enter Try.func22, Try.ntmps22
  go_wp2_with fail
  generalize w.alloc _ = W at S0 ⊢
  generalize w.heap.size = B0 at S0 ⊢
  have ud : ∀ w', UseAt B0 u w' → (w'.cell? ⟨B0, 0, none⟩ = some (.int .i64 u.k) ∧ w'.cell? ⟨B0, 1, none⟩ = some (.int .i64 u.who) ∧ w'.cell? ⟨B0, 2, none⟩ = some (.int .i64 u.obj) ∧ w'.cell? ⟨B0, 3, none⟩ = some (.int .i64 u.i) ∧ w'.cell? ⟨B0, 4, none⟩ = some (.int .u64 u.n) ∧ w'.cell? ⟨B0, 5, none⟩ = some (.int .u64 u.m) ∧ w'.cell? ⟨B0, 6, none⟩ = some (.int .i64 u.flow) ∧ w'.cell? ⟨B0, 7, none⟩ = some (.int .i64 u.len) ∧ w'.cell? ⟨B0, 8, none⟩ = some (.int .i64 u.mark)) := fun w' hc => hc
  have u0 : UseAt B0 u W.drew := UseAt.of_row (S0.out.drew.rowm (by simp))
  have S0d := Lib.hid S0.out.drew
  go_region_held3 (UseAt B0 u) (assumption)
    (first
      | (go_at_call 33
         refine (by_any u _).mono ?_
         rintro e w1 ⟨rfl, hc⟩
         have S1 := Lib.hid (Scope.quiet (Hid.out (by assumption)) hc)
         have uq : UseAt B0 u w1 := UseAt.of_row (S1.out.rowm (by simp))
         clear hc)
      | (go_at_call 34
         refine (thing_any u _).mono ?_
         rintro e w2 ⟨rfl, hc⟩
         have S2 := Lib.hid (Scope.quiet (Hid.out (by assumption)) hc)
         have uq : UseAt B0 u w2 := UseAt.of_row (S2.out.rowm (by simp))
         clear hc)
      | (go_at_call 35
         refine (uplace_any u _).mono ?_
         rintro e w3 ⟨rfl, hc⟩
         have S3 := Lib.hid (Scope.quiet (Hid.out (by assumption)) hc)
         have uq : UseAt B0 u w3 := UseAt.of_row (S3.out.rowm (by simp))
         clear hc))
  go_wp2_with fail
  refine (what_any u (n := 9) (by omega) (by omega) _).mono ?_
  rintro e w4 ⟨he, hc⟩
  have S4 := Lib.hid (S3.out.quiet hc)
  clear hc S1 S2 S3 S0 S0d u0
  have hm := mod_lt u.k (n := 9) (by omega)
  have hv : u.what 9 = 0 ∨ u.what 9 = 1 ∨ u.what 9 = 2 ∨ u.what 9 = 3 ∨ u.what 9 = 4 ∨ u.what 9 = 5 ∨ u.what 9 = 6 ∨ u.what 9 = 7 ∨ u.what 9 = 8 := by unfold Us.what; omega
  clear hm
  rcases hv with hv | hv | hv | hv | hv | hv | hv | hv | hv
  · rw [hv] at he
    subst he
    clear hv
    go_wp2_with fail
    refine ((tlock_does u.by u.thing Ht.out (by omega)).at0 S4.out).mono ?_
    rintro e w5 ⟨rfl, s5⟩
    have S5 := Lib.hid s5
    clear s5
    go_wp2_with fail
    refine ((rtlock_does u.by u.thing (by omega) (by omega)).at1 S5.out).mono ?_
    rintro e w6 ⟨rfl, s6⟩
    have S6 := Lib.hid s6
    clear s6
    go_wp2
    go_ret
    exact S6.out.stepped19 (by omega) (by have := MS.swap_len σ u.by (mutL u.thing) 0 1; omega)
  · rw [hv] at he
    subst he
    clear hv
    go_wp2_with fail
    refine ((tlock_does u.by u.thing Ht.out (by omega)).at0 S4.out).mono ?_
    rintro e w5 ⟨rfl, s5⟩
    have S5 := Lib.hid s5
    clear s5
    go_wp2_with fail
    refine ((rtlock_does u.by u.thing (by omega) (by omega)).at1 S5.out).mono ?_
    rintro e w6 ⟨rfl, s6⟩
    have S6 := Lib.hid s6
    clear s6
    go_wp2
    go_ret
    exact S6.out.stepped19 (by omega) (by have := MS.swap_len σ u.by (mutL u.thing) 0 1; omega)
  · rw [hv] at he
    subst he
    clear hv
    go_wp2_with fail
    refine ((tunlock_does u.by u.thing Ht.out (by omega)).at0 S4.out).mono ?_
    rintro e w5 ⟨rfl, s5⟩
    have S5 := Lib.hid s5
    clear s5
    go_wp2_with fail
    refine ((rtunlock_does u.by u.thing (by omega) (by omega)).at1 S5.out).mono ?_
    rintro e w6 ⟨rfl, s6⟩
    have S6 := Lib.hid s6
    clear s6
    have hu6 := S6.out.tab_u64 (slotL_wf Ht.out Hp.out); have Hu6 := Lib.hid hu6
    clear hu6
    go_wp2_with fail
    refine ((tslot_does u.by u.thing u.place Ht.out Hp.out (by simp [MS.put, MS.set]; omega) Hu6.out).at0 S6.out).mono ?_
    rintro e w7 ⟨he, s7⟩
    unfold slotR at he
    subst he
    have S7 := Lib.hid s7
    clear s7
    go_wp2_with fail
    refine ((rtslot_does u.by u.thing u.place (by omega) (by simp [MS.put, MS.set]; omega) Hu6.out).at1 S7.out).mono ?_
    rintro e w8 ⟨he, s8⟩
    unfold slotR at he
    subst he
    have S8 := Lib.hid s8
    clear s8
    go_wp2
    go_ret
    exact S8.out.stepped19 (by omega) (by simp [MS.put, MS.set])
  · rw [hv] at he
    subst he
    clear hv
    go_wp2_with fail
    have u4 : UseAt B0 u w4.drew := UseAt.of_row (S4.out.drew.rowm (by simp))
    have S5 := Lib.hid S4.out.drew
    go_region_held3 (UseAt B0 u) (assumption)
      (first
        | (go_at_call 38
           refine (flow19_pure Hu.out _).mono ?_
           rintro e wq ⟨rfl, hc⟩
           have Sq := Lib.hid (Scope.quiet (Hid.out (by assumption)) hc)
           have uq : UseAt B0 u wq := UseAt.of_row (Sq.out.rowm (by simp))
           clear hc)
        | (go_at_call 39
           refine (obj19_pure Hu.out _).mono ?_
           rintro e wq ⟨rfl, hc⟩
           have Sq := Lib.hid (Scope.quiet (Hid.out (by assumption)) hc)
           have uq : UseAt B0 u wq := UseAt.of_row (Sq.out.rowm (by simp))
           clear hc)
        | (go_at_call 16
           refine ((tput_does (p := p) (m := m) (sh := sh) (sl := sl) (σ := σ) u.by u.thing u.place u.tflow u.tobj Ht.out Hp.out Ho.out (by omega)).at0 (Hid.out (by assumption))).mono ?_
           rintro e wq ⟨rfl, sq⟩
           have uq : UseAt B0 u wq := UseAt.of_row (sq.rowm (by simp))
           have Sq := Lib.hid sq
           clear sq)
        | (go_at_call 40
           refine ((rtput_does (q := q) (x := x) (n := n) (sh := sh) (sl := sl) (σ := σ) u.by u.thing u.place u.tflow u.tobj Ho.out (by omega) (by omega)).at1 (Hid.out (by assumption))).mono ?_
           rintro e wq ⟨rfl, sq⟩
           have uq : UseAt B0 u wq := UseAt.of_row (sq.rowm (by simp))
           have Sq := Lib.hid sq
           clear sq))
    go_wp2
    go_ret
    exact Sq.out.stepped19 (by omega) (by have := MS.tput_len σ u.by u.thing u.place u.tflow u.tobj; omega)
  · rw [hv] at he
    subst he
    clear hv
    go_wp2_with fail
    have u4 : UseAt B0 u w4.drew := UseAt.of_row (S4.out.drew.rowm (by simp))
    have S5 := Lib.hid S4.out.drew
    go_region_held3 (UseAt B0 u) (assumption)
      (first
        | (go_at_call 38
           refine (flow19_pure Hu.out _).mono ?_
           rintro e wq ⟨rfl, hc⟩
           have Sq := Lib.hid (Scope.quiet (Hid.out (by assumption)) hc)
           have uq : UseAt B0 u wq := UseAt.of_row (Sq.out.rowm (by simp))
           clear hc)
        | (go_at_call 39
           refine (obj19_pure Hu.out _).mono ?_
           rintro e wq ⟨rfl, hc⟩
           have Sq := Lib.hid (Scope.quiet (Hid.out (by assumption)) hc)
           have uq : UseAt B0 u wq := UseAt.of_row (Sq.out.rowm (by simp))
           clear hc)
        | (go_at_call 16
           refine ((tput_does (p := p) (m := m) (sh := sh) (sl := sl) (σ := σ) u.by u.thing u.place u.tflow u.tobj Ht.out Hp.out Ho.out (by omega)).at0 (Hid.out (by assumption))).mono ?_
           rintro e wq ⟨rfl, sq⟩
           have uq : UseAt B0 u wq := UseAt.of_row (sq.rowm (by simp))
           have Sq := Lib.hid sq
           clear sq)
        | (go_at_call 40
           refine ((rtput_does (q := q) (x := x) (n := n) (sh := sh) (sl := sl) (σ := σ) u.by u.thing u.place u.tflow u.tobj Ho.out (by omega) (by omega)).at1 (Hid.out (by assumption))).mono ?_
           rintro e wq ⟨rfl, sq⟩
           have uq : UseAt B0 u wq := UseAt.of_row (sq.rowm (by simp))
           have Sq := Lib.hid sq
           clear sq))
    go_wp2
    go_ret
    exact Sq.out.stepped19 (by omega) (by have := MS.tput_len σ u.by u.thing u.place u.tflow u.tobj; omega)
  · rw [hv] at he
    subst he
    clear hv
    go_wp2_with fail
    have u4 : UseAt B0 u w4.drew := UseAt.of_row (S4.out.drew.rowm (by simp))
    have S5 := Lib.hid S4.out.drew
    go_region_held3 (UseAt B0 u) (assumption)
      (first
        | (go_at_call 38
           refine (flow19_pure Hu.out _).mono ?_
           rintro e wq ⟨rfl, hc⟩
           have Sq := Lib.hid (Scope.quiet (Hid.out (by assumption)) hc)
           have uq : UseAt B0 u wq := UseAt.of_row (Sq.out.rowm (by simp))
           clear hc)
        | (go_at_call 39
           refine (obj19_pure Hu.out _).mono ?_
           rintro e wq ⟨rfl, hc⟩
           have Sq := Lib.hid (Scope.quiet (Hid.out (by assumption)) hc)
           have uq : UseAt B0 u wq := UseAt.of_row (Sq.out.rowm (by simp))
           clear hc)
        | (go_at_call 16
           refine ((tput_does (p := p) (m := m) (sh := sh) (sl := sl) (σ := σ) u.by u.thing u.place u.tflow u.tobj Ht.out Hp.out Ho.out (by omega)).at0 (Hid.out (by assumption))).mono ?_
           rintro e wq ⟨rfl, sq⟩
           have uq : UseAt B0 u wq := UseAt.of_row (sq.rowm (by simp))
           have Sq := Lib.hid sq
           clear sq)
        | (go_at_call 40
           refine ((rtput_does (q := q) (x := x) (n := n) (sh := sh) (sl := sl) (σ := σ) u.by u.thing u.place u.tflow u.tobj Ho.out (by omega) (by omega)).at1 (Hid.out (by assumption))).mono ?_
           rintro e wq ⟨rfl, sq⟩
           have uq : UseAt B0 u wq := UseAt.of_row (sq.rowm (by simp))
           have Sq := Lib.hid sq
           clear sq))
    go_wp2
    go_ret
    exact Sq.out.stepped19 (by omega) (by have := MS.tput_len σ u.by u.thing u.place u.tflow u.tobj; omega)
  · rw [hv] at he
    subst he
    clear hv
    go_wp2_with fail
    refine ((tclear_does u.by u.thing u.place Ht.out Hp.out (by omega)).at0 S4.out).mono ?_
    rintro e w5 ⟨rfl, s5⟩
    have S5 := Lib.hid s5
    clear s5
    go_wp2_with fail
    refine ((rtclear_does u.by u.thing u.place (by omega) (by omega)).at1 S5.out).mono ?_
    rintro e w6 ⟨rfl, s6⟩
    have S6 := Lib.hid s6
    clear s6
    have hu6 := S6.out.tab_u64 (slotL_wf Ht.out Hp.out); have Hu6 := Lib.hid hu6
    clear hu6
    go_wp2_with fail
    refine ((tslot_does u.by u.thing u.place Ht.out Hp.out (by simp [MS.put, MS.set]; omega) Hu6.out).at0 S6.out).mono ?_
    rintro e w7 ⟨he, s7⟩
    unfold slotR at he
    subst he
    have S7 := Lib.hid s7
    clear s7
    go_wp2_with fail
    refine ((rtslot_does u.by u.thing u.place (by omega) (by simp [MS.put, MS.set]; omega) Hu6.out).at1 S7.out).mono ?_
    rintro e w8 ⟨he, s8⟩
    unfold slotR at he
    subst he
    have S8 := Lib.hid s8
    clear s8
    go_wp2
    go_ret
    exact S8.out.stepped19 (by omega) (by simp [MS.put, MS.set])
  · rw [hv] at he
    subst he
    clear hv
    have hu4 := S4.out.tab_u64 (slotL_wf Ht.out Hp.out); have Hu4 := Lib.hid hu4
    clear hu4
    go_wp2_with fail
    refine ((tslot_does u.by u.thing u.place Ht.out Hp.out (by omega) Hu4.out).at0 S4.out).mono ?_
    rintro e w5 ⟨he, s5⟩
    unfold slotR at he
    subst he
    have S5 := Lib.hid s5
    clear s5
    go_wp2_with fail
    refine ((rtslot_does u.by u.thing u.place (by omega) (by omega) Hu4.out).at1 S5.out).mono ?_
    rintro e w6 ⟨he, s6⟩
    unfold slotR at he
    subst he
    have S6 := Lib.hid s6
    clear s6
    go_wp2
    go_ret
    exact S6.out.stepped19 (by omega) (by simp [MS.put, MS.set])
  · rw [hv] at he
    subst he
    clear hv
    have hu4 := S4.out.tab_u64 (slotL_wf Ht.out Hp.out); have Hu4 := Lib.hid hu4
    clear hu4
    go_wp2_with fail
    refine ((tslot_does u.by u.thing u.place Ht.out Hp.out (by omega) Hu4.out).at0 S4.out).mono ?_
    rintro e w5 ⟨he, s5⟩
    unfold slotR at he
    subst he
    have S5 := Lib.hid s5
    clear s5
    go_wp2_with fail
    refine ((rtslot_does u.by u.thing u.place (by omega) (by omega) Hu4.out).at1 S5.out).mono ?_
    rintro e w6 ⟨he, s6⟩
    unfold slotR at he
    subst he
    have S6 := Lib.hid s6
    clear s6
    go_wp2
    go_ret
    exact S6.out.stepped19 (by omega) (by simp [MS.put, MS.set])
end Go.Proofs.Ytjipjhmcpjffcab
