/- step of layer 20: a turn done to a post and to the reference's: they tell the same. -/
import Derived.Test.YtjipjhmcpjffcacPostRB
set_option linter.unusedSimpArgs false
set_option linter.unusedVariables false
set_option maxRecDepth 20000
namespace Go.Proofs.Ytjipjhmcpjffcac
open Go Go.RowKit Go.Maps

@[reducible] def Tn.cells (t : Tn) (s : Value) : List Value := [.int .i64 t.u.k, .int .i64 t.u.who, .int .i64 t.u.obj, .int .i64 t.u.i, .int .u64 t.u.n, .int .u64 t.u.m, .int .i64 t.u.flow, .int .i64 t.u.len, .int .i64 t.u.mark, .int .i64 t.c.op, .int .i64 t.c.flow, .int .i64 t.c.a, .int .i64 t.c.b, .int .i64 t.r.e, s, .int .i64 t.r.n, .int .u64 t.r.v]
@[reducible] def Tn.val (t : Tn) (s : Value) : Value := .agg #[.int .i64 t.u.k, .int .i64 t.u.who, .int .i64 t.u.obj, .int .i64 t.u.i, .int .u64 t.u.n, .int .u64 t.u.m, .int .i64 t.u.flow, .int .i64 t.u.len, .int .i64 t.u.mark, .int .i64 t.c.op, .int .i64 t.c.flow, .int .i64 t.c.a, .int .i64 t.c.b, .int .i64 t.r.e, s, .int .i64 t.r.n, .int .u64 t.r.v]
theorem MS.swap_len (σ : MS) (who : Int) (l : Lc) (a b : Int) : (σ.swap who l a b).log.length ≤ σ.log.length + 1 := by
  unfold MS.swap
  split <;> simp [MS.put, MS.set]
theorem post_few {S : List Nat} {w0 w : World} {Bs : List HA} {p m ba br : Nat} {W : Int} {σ : MS} {KC : List (Int × Cl)} {JR : List (Int × Rt)} (h : Scope S w0 w (postA p m ba br W σ KC JR :: Bs)) {j : Int} (hj : I64 j) : few' (lastOf Rt.zero JR j).pk := by
  obtain ⟨F, h1⟩ := h.exo
  exact (h1.open1.res_pk hj).2
theorem rpost_mono {q x n n' : Nat} {W : Int} {σ : MS} {KC : List (Int × Cl)} {JR : List (Int × Rt)} (hn : n ≤ n') : ∀ w fp, (rpostA q x n W σ KC JR).holds w fp → (rpostA q x n' W σ KC JR).holds w fp := by
  rintro w fp ⟨c, f, g, ⟨kv, k1, k2, k3⟩, h⟩
  exact ⟨c, f, g, ⟨kv, by omega, k2, k3⟩, h⟩
theorem Scope.rpost_up {S : List Nat} {w0 w : World} {X : HA} {Bs : List HA} {q x n n' : Nat} {W : Int} {σ : MS} {KC : List (Int × Cl)} {JR : List (Int × Rt)} (h : Scope S w0 w (X :: rpostA q x n W σ KC JR :: Bs)) (hn : n ≤ n') : Scope S w0 w (X :: rpostA q x n' W σ KC JR :: Bs) :=
  (Scope.turn1 (B := rpostA q x n' W σ KC JR) h.swap2 (rpost_mono hn)).swap2
def Stepped20 (w0 : World) (Bs : List HA) (p m ba br q x n : Nat) (W : Int) (σ : MS) (KC : List (Int × Cl)) (JR : List (Int × Rt)) (e : Ending) (w' : World) : Prop :=
  e = .returned (.bool true) ∧ ∃ (σ' : MS) (KC' : List (Int × Cl)) (JR' : List (Int × Rt)), σ'.log.length ≤ σ.log.length + 2 ∧ KC'.length ≤ KC.length + 1 ∧ JR'.length ≤ JR.length + 1 ∧ Scope [] w0 w' (postA p m ba br W σ' KC' JR' :: rpostA q x (n + 2) W σ' KC' JR' :: Bs)
theorem Scope.stepped20 {w0 w' : World} {Bs : List HA} {p m ba br q x n n' : Nat} {W : Int} {σ σ' : MS} {KC KC' : List (Int × Cl)} {JR JR' : List (Int × Rt)} {b1 : HA} (h : Scope [] w0 w' (postA p m ba br W σ' KC' JR' :: rpostA q x n' W σ' KC' JR' :: (Bs ++ [b1]))) (hn : n' ≤ n + 2) (hlen : σ'.log.length ≤ σ.log.length + 2) (h1 : KC'.length ≤ KC.length + 1) (h2 : JR'.length ≤ JR.length + 1) :
    Stepped20 w0 Bs p m ba br q x n W σ KC JR (.returned (.bool true)) w' :=
  ⟨rfl, σ', KC', JR', hlen, h1, h2, (Scope.drop (As := postA p m ba br W σ' KC' JR' :: rpostA q x n' W σ' KC' JR' :: Bs) (Bs := [b1]) h).rpost_up hn⟩
theorem Row.use9 {w : World} {k : Nat} {t : Tn} {s : Value} {ty : TypeId} (h : Row w k (t.cells s) ty) : UseAt k t.u w := ⟨h.cell rfl, h.cell rfl, h.cell rfl, h.cell rfl, h.cell rfl, h.cell rfl, h.cell rfl, h.cell rfl, h.cell rfl⟩
theorem Row.call4 {w : World} {k : Nat} {t : Tn} {s : Value} {ty : TypeId} (h : Row w k (t.cells s) ty) : w.cell? ⟨k, 9, none⟩ = some (.int .i64 t.c.op) ∧ w.cell? ⟨k, 10, none⟩ = some (.int .i64 t.c.flow) ∧ w.cell? ⟨k, 11, none⟩ = some (.int .i64 t.c.a) ∧ w.cell? ⟨k, 12, none⟩ = some (.int .i64 t.c.b) := ⟨h.cell rfl, h.cell rfl, h.cell rfl, h.cell rfl⟩
theorem Row.ret4 {w : World} {k : Nat} {t : Tn} {s : Value} {ty : TypeId} (h : Row w k (t.cells s) ty) : w.cell? ⟨k, 13, none⟩ = some (.int .i64 t.r.e) ∧ w.cell? ⟨k, 14, none⟩ = some s ∧ w.cell? ⟨k, 15, none⟩ = some (.int .i64 t.r.n) ∧ w.cell? ⟨k, 16, none⟩ = some (.int .u64 t.r.v) := ⟨h.cell rfl, h.cell rfl, h.cell rfl, h.cell rfl⟩

set_option maxHeartbeats 8000000 in
set_option maxRecDepth 20000 in
theorem step20_any {w0 w : World} {Bs : List HA} {p m ba br q x n : Nat} {W : Int} {σ : MS} {KC : List (Int × Cl)} {JR : List (Int × Rt)} {t : Tn} {s : Value} (h : Scope [] w0 w (postA p m ba br W σ KC JR :: rpostA q x n W σ KC JR :: Bs)) (hu : t.u.wf) (hok : t.r.ok) (hps : PkS w0 s t.r.pk) (hn : n ≤ 800000) (hl : σ.log.length ≤ 900000) (hK : KC.length ≤ 800000) (hJ : JR.length ≤ 800000) :
    Calls Try.prog 25 #[ptr p, ptr q, t.val s] w (Stepped20 w0 Bs p m ba br q x n W σ KC JR) := by
  obtain ⟨oa, cp, es⟩ := hps.form
  obtain ⟨z, hz⟩ : ∃ z, z = t.r.pk.length := ⟨_, rfl⟩
  rw [← hz] at es
  have HZ := Lib.hid hz
  clear hz
  subst es
  have s0 : Scope [] w0 (w.alloc (.cells #[.int .i64 t.u.k, .int .i64 t.u.who, .int .i64 t.u.obj, .int .i64 t.u.i, .int .u64 t.u.n, .int .u64 t.u.m, .int .i64 t.u.flow, .int .i64 t.u.len, .int .i64 t.u.mark, .int .i64 t.c.op, .int .i64 t.c.flow, .int .i64 t.c.a, .int .i64 t.c.b, .int .i64 t.r.e, .slice oa z cp, .int .i64 t.r.n, .int .u64 t.r.v] 64)) (postA p m ba br W σ KC JR :: rpostA q x n W σ KC JR :: (Bs ++ [box w.heap.size (t.cells (.slice oa z cp)) 64])) := by
    have := h.box (t.cells (.slice oa z cp)) 64
    simpa using this
  have hb := Us.by_i hu; have ht := Us.thing_i hu
  have S0 := Lib.hid s0; have Hb := Lib.hid hb; have Ht := Lib.hid ht; have Hps := Lib.hid hps; have Hf := Lib.hid hok.2.2
  clear h s0 hu hb ht hps hok
  go_enter Try.func25, Try.ntmps25
  go_wp2_with fail
  generalize w.alloc _ = V at S0 ⊢
  generalize w.heap.size = B0 at S0 ⊢
  have ud : ∀ w', UseAt B0 t.u w' → (w'.cell? ⟨B0, 0, none⟩ = some (.int .i64 t.u.k) ∧ w'.cell? ⟨B0, 1, none⟩ = some (.int .i64 t.u.who) ∧ w'.cell? ⟨B0, 2, none⟩ = some (.int .i64 t.u.obj) ∧ w'.cell? ⟨B0, 3, none⟩ = some (.int .i64 t.u.i) ∧ w'.cell? ⟨B0, 4, none⟩ = some (.int .u64 t.u.n) ∧ w'.cell? ⟨B0, 5, none⟩ = some (.int .u64 t.u.m) ∧ w'.cell? ⟨B0, 6, none⟩ = some (.int .i64 t.u.flow) ∧ w'.cell? ⟨B0, 7, none⟩ = some (.int .i64 t.u.len) ∧ w'.cell? ⟨B0, 8, none⟩ = some (.int .i64 t.u.mark)) := fun _ h => h
  have u0 : UseAt B0 t.u V.drew := Row.use9 (S0.out.drew.rowm (k := B0) (vs := t.cells (.slice oa z cp)) (t := 64) (by simp))
  have S0d := Lib.hid S0.out.drew
  go_region_held3 (UseAt B0 t.u) (assumption)
    (first
      | (go_at_call 42
         refine (by_any t.u _).mono ?_
         rintro e w1 ⟨rfl, hc⟩
         have S1 := Lib.hid (Scope.quiet (Hid.out (by assumption)) hc)
         have uq : UseAt B0 t.u w1 := Row.use9 (S1.out.rowm (k := B0) (vs := t.cells (.slice oa z cp)) (t := 64) (by simp))
         clear hc)
      | (go_at_call 43
         refine (thing_any t.u _).mono ?_
         rintro e w2 ⟨rfl, hc⟩
         have S2 := Lib.hid (Scope.quiet (Hid.out (by assumption)) hc)
         have uq : UseAt B0 t.u w2 := Row.use9 (S2.out.rowm (k := B0) (vs := t.cells (.slice oa z cp)) (t := 64) (by simp))
         clear hc))
  have ux := (ud _ uq)
  obtain ⟨a0, a1, a2, a3, a4, a5, a6, a7, a8⟩ := ux
  go_wp2_with fail
  refine (what_any t.u (n := 12) (by omega) (by omega) _).mono ?_
  rintro e w4 ⟨he, hc⟩
  have S4 := Lib.hid (Scope.quiet S2.out hc)
  clear hc S1 S2 S0 S0d u0 a0 a1 a2 a3 a4 a5 a6 a7 a8 ud
  have hm := mod_lt t.u.k (n := 12) (by omega)
  have hv : t.u.what 12 = 0 ∨ t.u.what 12 = 1 ∨ t.u.what 12 = 2 ∨ t.u.what 12 = 3 ∨ t.u.what 12 = 4 ∨ t.u.what 12 = 5 ∨ t.u.what 12 = 6 ∨ t.u.what 12 = 7 ∨ t.u.what 12 = 8 ∨ t.u.what 12 = 9 ∨ t.u.what 12 = 10 ∨ t.u.what 12 = 11 := by unfold Us.what; omega
  clear hm
  rcases hv with hv | hv | hv | hv | hv | hv | hv | hv | hv | hv | hv | hv
  · rw [hv] at he
    subst he
    clear hv
    obtain ⟨y0, y1, y2, y3⟩ := Row.call4 (S4.out.rowm (k := B0) (vs := t.cells (.slice oa z cp)) (t := 64) (by simp))
    go_wp2_with fail
    refine ((pask_does t.u.by t.c Hb.out (by omega)).at0 S4.out).mono ?_
    rintro e w5 ⟨rfl, s5⟩
    have S5 := Lib.hid s5
    clear s5
    clear y0 y1 y2 y3
    obtain ⟨y0, y1, y2, y3⟩ := Row.call4 (S5.out.rowm (k := B0) (vs := t.cells (.slice oa z cp)) (t := 64) (by simp))
    go_wp2_with fail
    refine ((rpask_does t.u.by t.c (by omega) (by omega)).at1 S5.out).mono ?_
    rintro e w6 ⟨rfl, s6⟩
    have S6 := Lib.hid s6
    clear s6
    clear y0 y1 y2 y3
    have hff := post_few S6.out Hb.out (j := t.u.by)
    have HFF := Lib.hid hff
    clear hff
    go_wp2_with fail
    refine (presult_scope t.u.by S6.out Hb.out (by (try simp [MS.put, MS.set]); omega)).mono ?_
    rintro e w7 ⟨c7, o7, rfl, s7⟩
    have S7 := Lib.hid (Scope.pick s7 2 rfl)
    clear s7
    go_wp2_with fail
    refine (rpresult_scope t.u.by S7.out (by (try simp); omega) (by (try simp [MS.put, MS.set]); omega)).mono ?_
    rintro e w8 ⟨c8, o8, rfl, s8⟩
    have O8 := Lib.hid (PkS.of_owns (s8.owned' 1 rfl)); have O7 := Lib.hid (PkS.of_owns (s8.owned' 3 rfl))
    have S8 := Lib.hid s8
    clear s8
    go_wp2_with fail
    refine (retEq_any O7.out O8.out HFF.out).mono ?_
    rintro e w9 ⟨he, hc⟩
    rw [decide_eq_true rfl] at he
    subst he
    have S9 := Lib.hid (Scope.drop_left (As := [ownA _ _ _ _ _, ownA _ _ _ _ _]) (Scope.pick (Scope.pick (Scope.pick (S8.out.quiet hc) 2 rfl) 2 rfl) 3 rfl))
    clear hc
    go_wp2
    go_ret
    exact S9.out.stepped20 (by omega) (by simp [MS.put, MS.set]) (by simp) (by simp)
  · rw [hv] at he
    subst he
    clear hv
    obtain ⟨y0, y1, y2, y3⟩ := Row.call4 (S4.out.rowm (k := B0) (vs := t.cells (.slice oa z cp)) (t := 64) (by simp))
    go_wp2_with fail
    refine ((pask_does t.u.by t.c Hb.out (by omega)).at0 S4.out).mono ?_
    rintro e w5 ⟨rfl, s5⟩
    have S5 := Lib.hid s5
    clear s5
    clear y0 y1 y2 y3
    obtain ⟨y0, y1, y2, y3⟩ := Row.call4 (S5.out.rowm (k := B0) (vs := t.cells (.slice oa z cp)) (t := 64) (by simp))
    go_wp2_with fail
    refine ((rpask_does t.u.by t.c (by omega) (by omega)).at1 S5.out).mono ?_
    rintro e w6 ⟨rfl, s6⟩
    have S6 := Lib.hid s6
    clear s6
    clear y0 y1 y2 y3
    have hff := post_few S6.out Hb.out (j := t.u.by)
    have HFF := Lib.hid hff
    clear hff
    go_wp2_with fail
    refine (presult_scope t.u.by S6.out Hb.out (by (try simp [MS.put, MS.set]); omega)).mono ?_
    rintro e w7 ⟨c7, o7, rfl, s7⟩
    have S7 := Lib.hid (Scope.pick s7 2 rfl)
    clear s7
    go_wp2_with fail
    refine (rpresult_scope t.u.by S7.out (by (try simp); omega) (by (try simp [MS.put, MS.set]); omega)).mono ?_
    rintro e w8 ⟨c8, o8, rfl, s8⟩
    have O8 := Lib.hid (PkS.of_owns (s8.owned' 1 rfl)); have O7 := Lib.hid (PkS.of_owns (s8.owned' 3 rfl))
    have S8 := Lib.hid s8
    clear s8
    go_wp2_with fail
    refine (retEq_any O7.out O8.out HFF.out).mono ?_
    rintro e w9 ⟨he, hc⟩
    rw [decide_eq_true rfl] at he
    subst he
    have S9 := Lib.hid (Scope.drop_left (As := [ownA _ _ _ _ _, ownA _ _ _ _ _]) (Scope.pick (Scope.pick (Scope.pick (S8.out.quiet hc) 2 rfl) 2 rfl) 3 rfl))
    clear hc
    go_wp2
    go_ret
    exact S9.out.stepped20 (by omega) (by simp [MS.put, MS.set]) (by simp) (by simp)
  · rw [hv] at he
    subst he
    clear hv
    go_wp2_with fail
    refine ((psend_does t.u.by Hb.out (by omega)).at0 S4.out).mono ?_
    rintro e w5 ⟨rfl, s5⟩
    have S5 := Lib.hid s5
    clear s5
    go_wp2_with fail
    refine ((rpsend_does t.u.by (by omega) (by omega)).at1 S5.out).mono ?_
    rintro e w6 ⟨rfl, s6⟩
    have S6 := Lib.hid s6
    clear s6
    have hff := post_few S6.out Hb.out (j := t.u.by)
    have HFF := Lib.hid hff
    clear hff
    go_wp2_with fail
    refine (presult_scope t.u.by S6.out Hb.out (by (try simp [MS.put, MS.set]); omega)).mono ?_
    rintro e w7 ⟨c7, o7, rfl, s7⟩
    have S7 := Lib.hid (Scope.pick s7 2 rfl)
    clear s7
    go_wp2_with fail
    refine (rpresult_scope t.u.by S7.out (by (try simp); omega) (by (try simp [MS.put, MS.set]); omega)).mono ?_
    rintro e w8 ⟨c8, o8, rfl, s8⟩
    have O8 := Lib.hid (PkS.of_owns (s8.owned' 1 rfl)); have O7 := Lib.hid (PkS.of_owns (s8.owned' 3 rfl))
    have S8 := Lib.hid s8
    clear s8
    go_wp2_with fail
    refine (retEq_any O7.out O8.out HFF.out).mono ?_
    rintro e w9 ⟨he, hc⟩
    rw [decide_eq_true rfl] at he
    subst he
    have S9 := Lib.hid (Scope.drop_left (As := [ownA _ _ _ _ _, ownA _ _ _ _ _]) (Scope.pick (Scope.pick (Scope.pick (S8.out.quiet hc) 2 rfl) 2 rfl) 3 rfl))
    clear hc
    go_wp2
    go_ret
    exact S9.out.stepped20 (by omega) (by simp [MS.put, MS.set]) (by simp) (by simp)
  · rw [hv] at he
    subst he
    clear hv
    go_wp2_with fail
    refine ((ptry_does t.u.by (by omega)).at0 S4.out).mono ?_
    rintro e w5 ⟨rfl, s5⟩
    have S5 := Lib.hid s5
    clear s5
    go_wp2_with fail
    refine ((rptry_does t.u.by (by omega) (by omega)).at1 S5.out).mono ?_
    rintro e w6 ⟨rfl, s6⟩
    have S6 := Lib.hid s6
    clear s6
    go_wp2
    go_ret
    exact S6.out.stepped20 (by omega) (by have := MS.swap_len σ t.u.by lockL 0 1; omega) (by omega) (by omega)
  · rw [hv] at he
    subst he
    clear hv
    go_wp2_with fail
    refine ((ptry_does t.u.by (by omega)).at0 S4.out).mono ?_
    rintro e w5 ⟨rfl, s5⟩
    have S5 := Lib.hid s5
    clear s5
    go_wp2_with fail
    refine ((rptry_does t.u.by (by omega) (by omega)).at1 S5.out).mono ?_
    rintro e w6 ⟨rfl, s6⟩
    have S6 := Lib.hid s6
    clear s6
    go_wp2
    go_ret
    exact S6.out.stepped20 (by omega) (by have := MS.swap_len σ t.u.by lockL 0 1; omega) (by omega) (by omega)
  · rw [hv] at he
    subst he
    clear hv
    go_wp2_with fail
    refine ((pleave_does t.u.by (by omega)).at0 S4.out).mono ?_
    rintro e w5 ⟨rfl, s5⟩
    have S5 := Lib.hid s5
    clear s5
    go_wp2_with fail
    refine ((rpleave_does t.u.by (by omega) (by omega)).at1 S5.out).mono ?_
    rintro e w6 ⟨rfl, s6⟩
    have S6 := Lib.hid s6
    clear s6
    have hff := post_few S6.out Hb.out (j := t.u.by)
    have HFF := Lib.hid hff
    clear hff
    go_wp2_with fail
    refine (presult_scope t.u.by S6.out Hb.out (by (try simp [MS.put, MS.set]); omega)).mono ?_
    rintro e w7 ⟨c7, o7, rfl, s7⟩
    have S7 := Lib.hid (Scope.pick s7 2 rfl)
    clear s7
    go_wp2_with fail
    refine (rpresult_scope t.u.by S7.out (by (try simp); omega) (by (try simp [MS.put, MS.set]); omega)).mono ?_
    rintro e w8 ⟨c8, o8, rfl, s8⟩
    have O8 := Lib.hid (PkS.of_owns (s8.owned' 1 rfl)); have O7 := Lib.hid (PkS.of_owns (s8.owned' 3 rfl))
    have S8 := Lib.hid s8
    clear s8
    go_wp2_with fail
    refine (retEq_any O7.out O8.out HFF.out).mono ?_
    rintro e w9 ⟨he, hc⟩
    rw [decide_eq_true rfl] at he
    subst he
    have S9 := Lib.hid (Scope.drop_left (As := [ownA _ _ _ _ _, ownA _ _ _ _ _]) (Scope.pick (Scope.pick (Scope.pick (S8.out.quiet hc) 2 rfl) 2 rfl) 3 rfl))
    clear hc
    go_wp2
    go_ret
    exact S9.out.stepped20 (by omega) (by simp [MS.put, MS.set]) (by simp) (by simp)
  · rw [hv] at he
    subst he
    clear hv
    go_wp2_with fail
    refine ((pstate_does t.u.by t.u.thing Ht.out (by omega)).at0 S4.out).mono ?_
    rintro e w5 ⟨rfl, s5⟩
    have S5 := Lib.hid s5
    clear s5
    go_wp2_with fail
    refine ((rpstate_does t.u.by t.u.thing (by omega) (by omega)).at1 S5.out).mono ?_
    rintro e w6 ⟨rfl, s6⟩
    have S6 := Lib.hid s6
    clear s6
    go_wp2
    go_ret
    exact S6.out.stepped20 (by omega) (by simp [MS.put]) (by omega) (by omega)
  · rw [hv] at he
    subst he
    clear hv
    go_wp2_with fail
    refine ((parg_does t.u.by t.u.thing Ht.out (by omega)).at0 S4.out).mono ?_
    rintro e w5 ⟨rfl, s5⟩
    have S5 := Lib.hid s5
    clear s5
    go_wp2_with fail
    refine ((rparg_does t.u.by t.u.thing (by omega) (by omega)).at1 S5.out).mono ?_
    rintro e w6 ⟨rfl, s6⟩
    have S6 := Lib.hid s6
    clear s6
    have hec := fun w' => equal_call_same (lastOf Cl.zero KC t.u.thing) w'
    go_wp2
    go_ret
    exact S6.out.stepped20 (by omega) (by simp [MS.put]) (by omega) (by omega)
  · rw [hv] at he
    subst he
    clear hv
    obtain ⟨y0, y1, y2, y3⟩ := Row.ret4 (S4.out.rowm (k := B0) (vs := t.cells (.slice oa z cp)) (t := 64) (by simp))
    go_wp2_with fail
    refine (panswer_scope t.u.by t.u.thing t.r _ S4.out Ht.out (fun X w' h => Hps.out.chg h.1) Hf.out (by omega)).mono ?_
    rintro e w5 ⟨rfl, s5⟩
    have S5 := Lib.hid s5.swap2
    clear s5
    clear y0 y1 y2 y3
    obtain ⟨y0, y1, y2, y3⟩ := Row.ret4 (S5.out.rowm (k := B0) (vs := t.cells (.slice oa z cp)) (t := 64) (by simp))
    go_wp2_with fail
    refine (rpanswer_scope t.u.by t.u.thing t.r _ S5.out (fun X w' h => Hps.out.chg h.1) Hf.out (by omega) (by omega)).mono ?_
    rintro e w6 ⟨rfl, s6⟩
    have S6 := Lib.hid s6.swap2
    clear s6
    clear y0 y1 y2 y3
    have hff := post_few S6.out Hb.out (j := t.u.by)
    have HFF := Lib.hid hff
    clear hff
    go_wp2_with fail
    refine (presult_scope t.u.by S6.out Hb.out (by (try simp [MS.put, MS.set]); omega)).mono ?_
    rintro e w7 ⟨c7, o7, rfl, s7⟩
    have S7 := Lib.hid (Scope.pick s7 2 rfl)
    clear s7
    go_wp2_with fail
    refine (rpresult_scope t.u.by S7.out (by (try simp); omega) (by (try simp [MS.put, MS.set]); omega)).mono ?_
    rintro e w8 ⟨c8, o8, rfl, s8⟩
    have O8 := Lib.hid (PkS.of_owns (s8.owned' 1 rfl)); have O7 := Lib.hid (PkS.of_owns (s8.owned' 3 rfl))
    have S8 := Lib.hid s8
    clear s8
    go_wp2_with fail
    refine (retEq_any O7.out O8.out HFF.out).mono ?_
    rintro e w9 ⟨he, hc⟩
    rw [decide_eq_true rfl] at he
    subst he
    have S9 := Lib.hid (Scope.drop_left (As := [ownA _ _ _ _ _, ownA _ _ _ _ _]) (Scope.pick (Scope.pick (Scope.pick (S8.out.quiet hc) 2 rfl) 2 rfl) 3 rfl))
    clear hc
    go_wp2
    go_ret
    exact S9.out.stepped20 (by omega) (by simp [MS.put, MS.set]) (by simp) (by simp)
  · rw [hv] at he
    subst he
    clear hv
    obtain ⟨y0, y1, y2, y3⟩ := Row.ret4 (S4.out.rowm (k := B0) (vs := t.cells (.slice oa z cp)) (t := 64) (by simp))
    go_wp2_with fail
    refine (panswer_scope t.u.by t.u.thing t.r _ S4.out Ht.out (fun X w' h => Hps.out.chg h.1) Hf.out (by omega)).mono ?_
    rintro e w5 ⟨rfl, s5⟩
    have S5 := Lib.hid s5.swap2
    clear s5
    clear y0 y1 y2 y3
    obtain ⟨y0, y1, y2, y3⟩ := Row.ret4 (S5.out.rowm (k := B0) (vs := t.cells (.slice oa z cp)) (t := 64) (by simp))
    go_wp2_with fail
    refine (rpanswer_scope t.u.by t.u.thing t.r _ S5.out (fun X w' h => Hps.out.chg h.1) Hf.out (by omega) (by omega)).mono ?_
    rintro e w6 ⟨rfl, s6⟩
    have S6 := Lib.hid s6.swap2
    clear s6
    clear y0 y1 y2 y3
    have hff := post_few S6.out Hb.out (j := t.u.by)
    have HFF := Lib.hid hff
    clear hff
    go_wp2_with fail
    refine (presult_scope t.u.by S6.out Hb.out (by (try simp [MS.put, MS.set]); omega)).mono ?_
    rintro e w7 ⟨c7, o7, rfl, s7⟩
    have S7 := Lib.hid (Scope.pick s7 2 rfl)
    clear s7
    go_wp2_with fail
    refine (rpresult_scope t.u.by S7.out (by (try simp); omega) (by (try simp [MS.put, MS.set]); omega)).mono ?_
    rintro e w8 ⟨c8, o8, rfl, s8⟩
    have O8 := Lib.hid (PkS.of_owns (s8.owned' 1 rfl)); have O7 := Lib.hid (PkS.of_owns (s8.owned' 3 rfl))
    have S8 := Lib.hid s8
    clear s8
    go_wp2_with fail
    refine (retEq_any O7.out O8.out HFF.out).mono ?_
    rintro e w9 ⟨he, hc⟩
    rw [decide_eq_true rfl] at he
    subst he
    have S9 := Lib.hid (Scope.drop_left (As := [ownA _ _ _ _ _, ownA _ _ _ _ _]) (Scope.pick (Scope.pick (Scope.pick (S8.out.quiet hc) 2 rfl) 2 rfl) 3 rfl))
    clear hc
    go_wp2
    go_ret
    exact S9.out.stepped20 (by omega) (by simp [MS.put, MS.set]) (by simp) (by simp)
  · rw [hv] at he
    subst he
    clear hv
    go_wp2_with fail
    refine ((pready_does t.u.by t.u.thing Ht.out (by omega)).at0 S4.out).mono ?_
    rintro e w5 ⟨rfl, s5⟩
    have S5 := Lib.hid s5
    clear s5
    go_wp2_with fail
    refine ((rpready_does t.u.by t.u.thing (by omega) (by omega)).at1 S5.out).mono ?_
    rintro e w6 ⟨rfl, s6⟩
    have S6 := Lib.hid s6
    clear s6
    have hff := post_few S6.out Hb.out (j := t.u.by)
    have HFF := Lib.hid hff
    clear hff
    go_wp2_with fail
    refine (presult_scope t.u.by S6.out Hb.out (by (try simp [MS.put, MS.set]); omega)).mono ?_
    rintro e w7 ⟨c7, o7, rfl, s7⟩
    have S7 := Lib.hid (Scope.pick s7 2 rfl)
    clear s7
    go_wp2_with fail
    refine (rpresult_scope t.u.by S7.out (by (try simp); omega) (by (try simp [MS.put, MS.set]); omega)).mono ?_
    rintro e w8 ⟨c8, o8, rfl, s8⟩
    have O8 := Lib.hid (PkS.of_owns (s8.owned' 1 rfl)); have O7 := Lib.hid (PkS.of_owns (s8.owned' 3 rfl))
    have S8 := Lib.hid s8
    clear s8
    go_wp2_with fail
    refine (retEq_any O7.out O8.out HFF.out).mono ?_
    rintro e w9 ⟨he, hc⟩
    rw [decide_eq_true rfl] at he
    subst he
    have S9 := Lib.hid (Scope.drop_left (As := [ownA _ _ _ _ _, ownA _ _ _ _ _]) (Scope.pick (Scope.pick (Scope.pick (S8.out.quiet hc) 2 rfl) 2 rfl) 3 rfl))
    clear hc
    go_wp2
    go_ret
    exact S9.out.stepped20 (by omega) (by simp [MS.put, MS.set]) (by simp) (by simp)
  · rw [hv] at he
    subst he
    clear hv
    have hff := post_few S4.out Hb.out (j := t.u.by)
    have HFF := Lib.hid hff
    clear hff
    go_wp2_with fail
    refine (presult_scope t.u.by S4.out Hb.out (by (try simp [MS.put, MS.set]); omega)).mono ?_
    rintro e w7 ⟨c7, o7, rfl, s7⟩
    have S7 := Lib.hid (Scope.pick s7 2 rfl)
    clear s7
    go_wp2_with fail
    refine (rpresult_scope t.u.by S7.out (by (try simp); omega) (by (try simp [MS.put, MS.set]); omega)).mono ?_
    rintro e w8 ⟨c8, o8, rfl, s8⟩
    have O8 := Lib.hid (PkS.of_owns (s8.owned' 1 rfl)); have O7 := Lib.hid (PkS.of_owns (s8.owned' 3 rfl))
    have S8 := Lib.hid s8
    clear s8
    go_wp2_with fail
    refine (retEq_any O7.out O8.out HFF.out).mono ?_
    rintro e w9 ⟨he, hc⟩
    rw [decide_eq_true rfl] at he
    subst he
    have S9 := Lib.hid (Scope.drop_left (As := [ownA _ _ _ _ _, ownA _ _ _ _ _]) (Scope.pick (Scope.pick (Scope.pick (S8.out.quiet hc) 2 rfl) 2 rfl) 3 rfl))
    clear hc
    go_wp2
    go_ret
    exact S9.out.stepped20 (by omega) (by simp [MS.put, MS.set]) (by simp) (by simp)
end Go.Proofs.Ytjipjhmcpjffcac
