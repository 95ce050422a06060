/- PostServes: asks that are sent wait, each as it was asked; each result comes to whom it is for; who asks anew waits anew. -/
import Derived.Test.YtjipjhmcpjffcacPostC
set_option linter.unusedSimpArgs false
set_option linter.unusedVariables false
set_option maxRecDepth 20000
namespace Go.Proofs.Ytjipjhmcpjffcac
open Go Go.RowKit Go.Maps
/-- 'min(x, y, z)' of numbers. -/
theorem wpList_min3 {P : Program} {w : World} {ops : Array Oper} {rest : List Oper} {o : Oper} {act : Act} {Q : Exit → Act → World → Prop} (hg : o.guard = none) (x y z : Operand) (ts : Array TypeId)
    (hop : o.op = .call { callee := .builtin .min, args := #[x, y, z], argTypes := ts }) (a b c m : Int) (hx : act.eval x = .int .i64 a) (hy : act.eval y = .int .i64 b) (hz : act.eval z = .int .i64 c)
    (hm : (if c < (if b < a then b else a) then c else (if b < a then b else a)) = m) (hK : wpList P ops Q rest (act.put o.dst (.int .i64 m)) w) : wpList P ops Q (o :: rest) act w := by
  refine wpList_plain hg fun K hK' => ?_
  have hr : (Builtin.min_ ts o.type #[.int .i64 a, .int .i64 b, .int .i64 c]).run P w = .ok (.int .i64 m) w := by
    simp [Builtin.min_, Builtin.min2, List.foldlM, ← hm, go_sem]
  unfold Oper.wp execOp
  simp only [hop, resolve, invoke, builtin, Sem.run_bind, Sem.run_pure, Result.andThen_ok, List.map_toArray, List.map_cons, List.map_nil, hx, hy, hz, hr]
  exact hK' _ _ hK

/-- What is known: of the first n asks their states, what was asked, what was told. -/
structure Srv (n : Nat) (σ : MS) (rq : Nat → Int) : Prop where
  rq : ∀ t : Nat, t < n → σ.num (reqL (t : Int)) = rq t
theorem reqL_ne {a b : Int} (h : a ≠ b) : reqL a ≠ reqL b := fun e => h (by simpa [reqL] using e)
section
variable {n : Nat} {σ : MS} {f f' : Nat → Int}
theorem Srv.put (h : Srv n σ f) (who k : Int) (l : Lc) : Srv n (σ.put who k l) f := ⟨h.rq⟩
theorem Srv.turn (h : Srv n σ f) {j : Nat} {v : Int} (he : ∀ t : Nat, t < n → f' t = if t = j then v else f t) : Srv n (σ.set (reqL (j : Int)) v) f' := ⟨fun t ht => by
  rw [he t ht]
  unfold MS.set
  by_cases e : t = j
  · subst e; simp
  · rw [if_neg e]
    have : reqL (t : Int) ≠ reqL (j : Int) := reqL_ne (by omega)
    simp only []
    rw [if_neg this]
    exact h.rq t ht⟩
theorem Srv.same (h : Srv n σ f) (he : ∀ t : Nat, t < n → f t = f' t) : Srv n σ f' := ⟨fun t ht => by rw [← he t ht]; exact h.rq t ht⟩
end
def Has {α : Type} (z : α) (l : List (Int × α)) (s : Nat → Prop) (g : Nat → α) : Prop := ∀ t : Nat, s t → lastOf z l (t : Int) = g t
theorem Has.snoc {α : Type} {z : α} {l : List (Int × α)} {s s' : Nat → Prop} {g g' : Nat → α} (h : Has z l s g) (j : Nat) (c : α) (hc : s' j → g' j = c) (hs : ∀ t, s' t → t ≠ j → s t ∧ g' t = g t) : Has z (l ++ [((j : Int), c)]) s' g' := fun t ht => by
  rw [lastOf_snoc]
  by_cases e : t = j
  · subst e; rw [if_pos rfl, hc ht]
  · rw [if_neg (by omega)]
    obtain ⟨h1, h2⟩ := hs t ht e
    rw [h t h1, h2]
theorem Has.same {α : Type} {z : α} {l : List (Int × α)} {s s' : Nat → Prop} {g : Nat → α} (h : Has z l s g) (hs : ∀ t, s' t → s t) : Has z l s' g := fun t ht => h t (hs t ht)

set_option maxHeartbeats 8000000 in
set_option maxRecDepth 20000 in
theorem postServes_row {w : World} (a : Int) (v1 : Value) (LC : List Cl) (v2 : Value) (LR : List Rt) (sv : Int) (ha : I64 a) (_ : True) (h1 : CallsAt w v1 LC) (_ : True) (h2 : RetsAt w v2 LR) (hsv : I64 sv) :
    Calls Try.prog 3 #[.int .i64 a, v1, v2, .int .i64 sv] w fun e w' => e = .returned (.bool true) ∧ Below w.heap.size w w' := by
  obtain ⟨oa, cp, rfl, hlc, hcm, hel⟩ := h1
  obtain ⟨ob, cq, rfl, hlr, hcr, her⟩ := h2
  obtain ⟨NC, hNC⟩ : ∃ N, N = LC.length := ⟨_, rfl⟩
  obtain ⟨NR, hNR⟩ : ∃ N, N = LR.length := ⟨_, rfl⟩
  rw [← hNC] at hlc ⊢
  rw [← hNR] at hlr ⊢
  have HelC := Lib.hid hel; have HelR := Lib.hid her; have HNC := Lib.hid hNC; have HNR := Lib.hid hNR; have S0 := Lib.hid (Scope.empty w)
  clear hel her hNC hNR hcm hcr hlc hlr
  obtain ⟨n, hn⟩ : ∃ n : Nat, (if (20 : Int) < (if (NR : Int) < (NC : Int) then (NR : Int) else (NC : Int)) then (20 : Int) else (if (NR : Int) < (NC : Int) then (NR : Int) else (NC : Int))) = (n : Int) := by
    refine ⟨min (min NC NR) 20, ?_⟩
    split <;> split <;> omega
  have hn1 : n ≤ NC := by split at hn <;> split at hn <;> omega
  have hn2 : n ≤ NR := by split at hn <;> split at hn <;> omega
  have hn3 : n ≤ 20 := by split at hn <;> split at hn <;> omega
  have Hn := Lib.hid hn
  clear hn
  go_enter Try.func3, Try.ntmps3
  go_wp2_with fail
  refine (made20_scope S0.out a).mono ?_
  rintro e w1 ⟨m, p, ba, br, q, x, rfl, s1⟩
  have S1 := Lib.hid s1
  clear s1
  generalize cl6 a = W at S1 ⊢
  go_wp2_with fail
  refine (awake20_scope S1.out).mono ?_
  rintro e w2 ⟨rfl, s2⟩
  have S2 := Lib.hid s2
  clear s2 S1
  go_wp2_with (refine wpList_min3 rfl _ _ _ _ rfl (NC : Int) (NR : Int) 20 (n : Int) rfl rfl rfl Hn.out ?_)
  go_loopw [13] (fun i wr => ∃ (k : Nat) (σ : MS) (KC : List (Int × Cl)), k ≤ n ∧ i = .int .i64 k ∧ σ.log.length ≤ 3 * k ∧ Srv n σ (fun t => if t < k then 1 else 0) ∧ Has Cl.zero KC (fun t => t < k) (fun t => LC.getD t Cl.zero) ∧ Scope [] w wr (postA p m ba br W σ KC [] :: ([] ++ [refA x 0 MS.zero] ++ [box q [ptr x, .int .i64 W, .slice none 0 0, .slice none 0 0, .slice none 0 0, .slice none 0 0] 59]))) (fun i _ => n - (intOf i).toNat)
  case atStart => exact ⟨0, MS.zero, [], by omega, rfl, by simp [MS.zero], ⟨fun t _ => by simp [MS.zero]⟩, fun t ht => absurd ht (by omega), S2.out⟩
  case round =>
    obtain ⟨k, σ, KC, hk, rfl, hlg, hq, hc, hs⟩ := hrel
    have Sr := Lib.hid hs; have Hq := Lib.hid hq; have Hc := Lib.hid hc
    clear hs hq hc S2
    by_cases hlt : k < n
    · obtain ⟨c, hcl⟩ : ∃ u, LC[k]? = some u := ⟨_, List.getElem?_eq_getElem (by rw [← HNC.out]; omega)⟩
      obtain ⟨g, off, rfl, hcc⟩ := HelC.out k c hcl
      obtain ⟨x0, x1, x2, x3⟩ := hcc wr Sr.out.1
      have hgd : LC.getD k Cl.zero = c := by simp [List.getD, hcl]
      have Hgd := Lib.hid hgd
      have i1 : (k : Int) < (NC : Int) := by omega
      have i2 : (k : Int) < (n : Int) := by omega
      have i0 : (0 : Int) ≤ (k : Int) := by omega
      have ik := Lib.hid (show I64 (k : Int) from by unfold I64; omega)
      clear hcl hcc hgd
      go_wp2_with fail
      refine ((pask_does (k : Int) c ik.out (by omega)).at0 Sr.out).mono ?_
      rintro e w3 ⟨rfl, s3⟩
      have Q3 := Lib.hid (Hq.out.put (k : Int) 6 (argL (k : Int))); have S3 := Lib.hid s3
      have l3 : (σ.put (k : Int) 6 (argL (k : Int))).log.length ≤ 3 * k + 1 := by simp [MS.put]; exact hlg
      clear s3 x0 x1 x2 x3
      generalize σ.put (k : Int) 6 (argL (k : Int)) = σ3 at S3 Q3 l3
      go_wp2_with fail
      refine ((pstate_does sv (k : Int) ik.out (by omega)).at0 S3.out).mono ?_
      rintro e w4 ⟨he, s4⟩
      rw [Q3.out.rq k hlt, if_neg (by omega)] at he
      subst he
      have Q4 := Lib.hid (Q3.out.put sv 1 (reqL (k : Int))); have S4 := Lib.hid s4
      have l4 : (σ3.put sv 1 (reqL (k : Int))).log.length ≤ 3 * k + 2 := by simp [MS.put]; exact l3
      clear s4
      generalize σ3.put sv 1 (reqL (k : Int)) = σ4 at S4 Q4 l4
      go_wp2_with fail
      refine ((psend_does (k : Int) ik.out (by omega)).at0 S4.out).mono ?_
      rintro e w5 ⟨rfl, s5⟩
      have Q5 := Lib.hid ((Q4.out.put (k : Int) 2 (reqL (k : Int))).turn (j := k) (v := 1) (f' := fun t => if t < k + 1 then 1 else 0) (fun t _ => by
        by_cases e : t = k
        · subst e; simp
        · simp only [if_neg e]
          by_cases e2 : t < k
          · rw [if_pos e2, if_pos (by omega)]
          · rw [if_neg e2, if_neg (by omega)])); have S5 := Lib.hid s5
      have l5 : ((σ4.put (k : Int) 2 (reqL (k : Int))).set (reqL (k : Int)) 1).log.length ≤ 3 * k + 3 := by simp [MS.put, MS.set]; exact l4
      clear s5
      generalize (σ4.put (k : Int) 2 (reqL (k : Int))).set (reqL (k : Int)) 1 = σ5 at S5 Q5 l5
      go_wp2_with fail
      go_roundw
      case rel => exact ⟨k + 1, σ5, _, by omega, by go_num, by omega, Q5.out, Hc.out.snoc k c (fun _ => Hgd.out) (fun t ht hne => ⟨by omega, rfl⟩), S5.out⟩
      case measure => simp [intOf]; omega
    · have ek : k = n := by omega
      subst ek
      have Hq1 := Lib.hid (Hq.out.same (f' := fun t => if t < k then 1 else 2) (fun t ht => by rw [if_pos ht, if_pos ht]))
      have hj0 : IntKind.i64.wrap ((k : Int) - 1) = (k : Int) - 1 := by rw [IntKind.wrap_i64]; omega
      go_wp2_with fail
      go_loopw [14] (fun i wr => ∃ (j : Nat) (σ : MS) (JR : List (Int × Rt)), j ≤ k ∧ i = .int .i64 ((j : Int) - 1) ∧ σ.log.length ≤ 3 * k + 4 * (k - j) ∧ Srv k σ (fun t => if t < j then 1 else 2) ∧ Has Rt.zero JR (fun t => j ≤ t ∧ t < k) (fun t => LR.getD t Rt.zero) ∧ Scope [] w wr (postA p m ba br W σ KC JR :: ([] ++ [refA x 0 MS.zero] ++ [box q [ptr x, .int .i64 W, .slice none 0 0, .slice none 0 0, .slice none 0 0, .slice none 0 0] 59]))) (fun i _ => (intOf i + 1).toNat)
      case atStart => exact ⟨k, σ, [], by omega, rfl, by omega, Hq1.out, fun t ht => absurd ht (by omega), Sr.out⟩
      case round =>
        obtain ⟨j, σ6, JR, hj, rfl, hlg6, hq, hr, hs⟩ := hrel
        have S6 := Lib.hid hs; have Q6 := Lib.hid hq; have HR := Lib.hid hr
        clear hs hq hr Sr Hq Hq1
        cases j with
        | zero =>
          rw [show ((0 : Nat) : Int) - 1 = -1 from rfl]
          go_wp2_with fail
          go_loopw [15] (fun i wr => ∃ (i' : Nat) (σ : MS) (KC : List (Int × Cl)), i' ≤ k ∧ i = .int .i64 i' ∧ σ.log.length ≤ 7 * k + 8 * i' ∧ Srv k σ (fun t => if t < i' then 1 else 2) ∧ Scope [] w wr (postA p m ba br W σ KC JR :: ([] ++ [refA x 0 MS.zero] ++ [box q [ptr x, .int .i64 W, .slice none 0 0, .slice none 0 0, .slice none 0 0, .slice none 0 0] 59]))) (fun i _ => k - (intOf i).toNat)
          case atStart => exact ⟨0, σ6, KC, by omega, rfl, by omega, Q6.out.same (fun t _ => by simp), S6.out⟩
          case round =>
            obtain ⟨t, σ11, KC1, ht, rfl, hlg11, hq, hs⟩ := hrel
            have S11 := Lib.hid hs; have Q11 := Lib.hid hq
            clear hs hq S6 Q6
            by_cases hlt : t < k
            · obtain ⟨r, hrl⟩ : ∃ u, LR[t]? = some u := ⟨_, List.getElem?_eq_getElem (by rw [← HNR.out]; omega)⟩
              obtain ⟨hok, g', off', s, rfl, hps, hrc⟩ := HelR.out t r hrl
              obtain ⟨u, hu⟩ : ∃ u : Nat, u = k - 1 - t := ⟨_, rfl⟩
              obtain ⟨c, hcl⟩ : ∃ y, LC[u]? = some y := ⟨_, List.getElem?_eq_getElem (by rw [← HNC.out]; omega)⟩
              obtain ⟨g, off, rfl, hcc⟩ := HelC.out u c hcl
              have hgr : LR.getD t Rt.zero = r := by simp [List.getD, hrl]
              have hres : lastOf Rt.zero JR (t : Int) = r := by rw [HR.out t ⟨by omega, hlt⟩]; exact hgr
              have Hres := Lib.hid hres; have Hcc := Lib.hid hcc; have Hrc := Lib.hid hrc; have Hok := Lib.hid hok; have Hps := Lib.hid hps
              have ik := Lib.hid (show I64 (t : Int) from by unfold I64; omega)
              have i1 : (u : Int) < (NC : Int) := by omega
              have i2 : (t : Int) < (NR : Int) := by omega
              have i3 : (t : Int) < (k : Int) := by omega
              have i0 : (0 : Int) ≤ (t : Int) := by omega
              have i4 : (0 : Int) ≤ (u : Int) := by omega
              have e1 : IntKind.i64.wrap ((k : Int) - 1) = (k : Int) - 1 := by rw [IntKind.wrap_i64]; omega
              have e2 : IntKind.i64.wrap ((k : Int) - 1 - (t : Int)) = (u : Int) := by rw [IntKind.wrap_i64]; omega
              have e3 : (k : Int) - 1 - (t : Int) = (u : Int) := by omega
              have e4 : IntKind.i64.wrap (u : Int) = (u : Int) := by rw [IntKind.wrap_i64]; omega
              have h0 : Chg [] w (World.drew _) := S11.out.drew.1
              have S11d := Lib.hid S11.out.drew
              clear hcl hrl hcc hrc hok hps hgr hres S11 hu
              go_wp2_with fail
              refine wp_region_any (by kernel_rfl) ?_
              change wpAny _ _ _ _ _ _ _ (World.drew _)
              refine wpAny_of_U (S := fun w' => Chg [] w w') (U := [0, 1, 2, 3, 4, 5, 6, 7, 8, 9, 10, 11, 12, 13, 14, 15]) _ _ _ _ ?_
              refine wpAnyU_take (i := 0) (v := ?_) rfl (by kernel_rfl) (by kernel_rfl) (by kernel_rfl) (by kernel_rfl) (fun _ _ _ h => h) (Or.inl ⟨by rfl, ?_⟩) h0 ?_
              rotate_left 1
              · (intro w' hS; (try dsimp only at hS); (try simp only [List.getElem_toArray, List.getElem_cons_succ, List.getElem_cons_zero]); go_simp; (try with_reducible rfl))
              try simp only [Act.put, List.getElem_toArray, List.getElem_cons_succ, List.getElem_cons_zero, List.setIfInBounds_toArray, List.set_cons_zero, List.set_cons_succ]
              refine wpAnyU_take (i := 1) (v := ?_) rfl (by kernel_rfl) (by kernel_rfl) (by kernel_rfl) (by kernel_rfl) (fun _ _ _ h => h) (Or.inl ⟨by rfl, ?_⟩) h0 ?_
              rotate_left 1
              · (intro w' hS; (try dsimp only at hS); (try simp only [List.getElem_toArray, List.getElem_cons_succ, List.getElem_cons_zero]); go_simp; (try with_reducible rfl))
              try simp only [Act.put, List.getElem_toArray, List.getElem_cons_succ, List.getElem_cons_zero, List.setIfInBounds_toArray, List.set_cons_zero, List.set_cons_succ]
              refine wpAnyU_take (i := 2) (v := ?_) rfl (by kernel_rfl) (by kernel_rfl) (by kernel_rfl) (by kernel_rfl) (fun _ _ _ h => h) (Or.inl ⟨by rfl, ?_⟩) h0 ?_
              rotate_left 1
              · (intro w' hS; (try dsimp only at hS); (try simp only [List.getElem_toArray, List.getElem_cons_succ, List.getElem_cons_zero]); go_simp; (try with_reducible rfl))
              try simp only [Act.put, List.getElem_toArray, List.getElem_cons_succ, List.getElem_cons_zero, List.setIfInBounds_toArray, List.set_cons_zero, List.set_cons_succ]
              refine wpAnyU_all (rs := [3]) (by kernel_rfl) (by simp) (fun i hi => ?_)
              obtain rfl : i = 3 := by simpa using hi
              refine wpOpU_stepG rfl (by rfl) (fun K hK => ?_)
              go_simp
              refine ((pstate_does (t : Int) (t : Int) ik.out (by omega)).at0 S11d.out).mono ?_
              rintro e w12 ⟨he, s12⟩
              rw [Q11.out.rq t hlt, if_neg (by omega)] at he
              subst he
              have h12 : Chg [] w w12 := s12.1
              have Q12 := Lib.hid (Q11.out.put (t : Int) 1 (reqL (t : Int))); have S12 := Lib.hid s12
              have l12 : (σ11.put (t : Int) 1 (reqL (t : Int))).log.length ≤ 7 * k + 8 * t + 1 := by simp [MS.put]; exact hlg11
              refine hK _ _ ⟨fun _ => h12, ?_⟩
              clear hK K s12 S11d h0
              generalize σ11.put (t : Int) 1 (reqL (t : Int)) = σ12 at S12 Q12 l12
              try simp only [Act.put, List.getElem_toArray, List.getElem_cons_succ, List.getElem_cons_zero, List.setIfInBounds_toArray, List.set_cons_zero, List.set_cons_succ]
              refine wpAnyU_take (i := 4) (v := ?_) rfl (by kernel_rfl) (by kernel_rfl) (by kernel_rfl) (by kernel_rfl) (fun _ _ _ h => h) (Or.inl ⟨by rfl, ?_⟩) h12 ?_
              rotate_left 1
              · (intro w' hS; obtain ⟨z0, z1, z2, z3⟩ := Hrc.out w' hS; (try dsimp only at hS); (try simp only [List.getElem_toArray, List.getElem_cons_succ, List.getElem_cons_zero]); go_simp; (try with_reducible rfl))
              try simp only [Act.put, List.getElem_toArray, List.getElem_cons_succ, List.getElem_cons_zero, List.setIfInBounds_toArray, List.set_cons_zero, List.set_cons_succ]
              refine wpAnyU_take (i := 5) (v := ?_) rfl (by kernel_rfl) (by kernel_rfl) (by kernel_rfl) (by kernel_rfl) (fun _ _ _ h => h) (Or.inl ⟨by rfl, ?_⟩) h12 ?_
              rotate_left 1
              · (intro w' hS; obtain ⟨z0, z1, z2, z3⟩ := Hrc.out w' hS; (try dsimp only at hS); (try simp only [List.getElem_toArray, List.getElem_cons_succ, List.getElem_cons_zero]); go_simp; (try with_reducible rfl))
              try simp only [Act.put, List.getElem_toArray, List.getElem_cons_succ, List.getElem_cons_zero, List.setIfInBounds_toArray, List.set_cons_zero, List.set_cons_succ]
              refine wpAnyU_take (i := 6) (v := ?_) rfl (by kernel_rfl) (by kernel_rfl) (by kernel_rfl) (by kernel_rfl) (fun _ _ _ h => h) (Or.inl ⟨by rfl, ?_⟩) h12 ?_
              rotate_left 1
              · (intro w' hS; obtain ⟨z0, z1, z2, z3⟩ := Hrc.out w' hS; (try dsimp only at hS); (try simp only [List.getElem_toArray, List.getElem_cons_succ, List.getElem_cons_zero]); go_simp; (try with_reducible rfl))
              try simp only [Act.put, List.getElem_toArray, List.getElem_cons_succ, List.getElem_cons_zero, List.setIfInBounds_toArray, List.set_cons_zero, List.set_cons_succ]
              refine wpAnyU_take (i := 7) (v := ?_) rfl (by kernel_rfl) (by kernel_rfl) (by kernel_rfl) (by kernel_rfl) (fun _ _ _ h => h) (Or.inl ⟨by rfl, ?_⟩) h12 ?_
              rotate_left 1
              · (intro w' hS; obtain ⟨z0, z1, z2, z3⟩ := Hrc.out w' hS; (try dsimp only at hS); (try simp only [List.getElem_toArray, List.getElem_cons_succ, List.getElem_cons_zero]); go_simp; (try with_reducible rfl))
              try simp only [Act.put, List.getElem_toArray, List.getElem_cons_succ, List.getElem_cons_zero, List.setIfInBounds_toArray, List.set_cons_zero, List.set_cons_succ]
              refine wpAnyU_take (i := 9) (v := ?_) rfl (by kernel_rfl) (by kernel_rfl) (by kernel_rfl) (by kernel_rfl) (fun _ _ _ h => h) (Or.inl ⟨by rfl, ?_⟩) h12 ?_
              rotate_left 1
              · (intro w' hS; obtain ⟨z0, z1, z2, z3⟩ := Hrc.out w' hS; (try dsimp only at hS); (try simp only [List.getElem_toArray, List.getElem_cons_succ, List.getElem_cons_zero]); go_simp; (try with_reducible rfl))
              try simp only [Act.put, List.getElem_toArray, List.getElem_cons_succ, List.getElem_cons_zero, List.setIfInBounds_toArray, List.set_cons_zero, List.set_cons_succ]
              refine wpAnyU_take (i := 10) (v := ?_) rfl (by kernel_rfl) (by kernel_rfl) (by kernel_rfl) (by kernel_rfl) (fun _ _ _ h => h) (Or.inl ⟨by rfl, ?_⟩) h12 ?_
              rotate_left 1
              · (intro w' hS; obtain ⟨z0, z1, z2, z3⟩ := Hrc.out w' hS; (try dsimp only at hS); (try simp only [List.getElem_toArray, List.getElem_cons_succ, List.getElem_cons_zero]); go_simp; (try with_reducible rfl))
              try simp only [Act.put, List.getElem_toArray, List.getElem_cons_succ, List.getElem_cons_zero, List.setIfInBounds_toArray, List.set_cons_zero, List.set_cons_succ]
              refine wpAnyU_take (i := 11) (v := ?_) rfl (by kernel_rfl) (by kernel_rfl) (by kernel_rfl) (by kernel_rfl) (fun _ _ _ h => h) (Or.inl ⟨by rfl, ?_⟩) h12 ?_
              rotate_left 1
              · (intro w' hS; obtain ⟨z0, z1, z2, z3⟩ := Hrc.out w' hS; (try dsimp only at hS); (try simp only [List.getElem_toArray, List.getElem_cons_succ, List.getElem_cons_zero]); go_simp; (try with_reducible rfl))
              try simp only [Act.put, List.getElem_toArray, List.getElem_cons_succ, List.getElem_cons_zero, List.setIfInBounds_toArray, List.set_cons_zero, List.set_cons_succ]
              refine wpAnyU_take (i := 12) (v := ?_) rfl (by kernel_rfl) (by kernel_rfl) (by kernel_rfl) (by kernel_rfl) (fun _ _ _ h => h) (Or.inl ⟨by rfl, ?_⟩) h12 ?_
              rotate_left 1
              · (intro w' hS; obtain ⟨z0, z1, z2, z3⟩ := Hrc.out w' hS; (try dsimp only at hS); (try simp only [List.getElem_toArray, List.getElem_cons_succ, List.getElem_cons_zero]); go_simp; (try with_reducible rfl))
              try simp only [Act.put, List.getElem_toArray, List.getElem_cons_succ, List.getElem_cons_zero, List.setIfInBounds_toArray, List.set_cons_zero, List.set_cons_succ]
              refine wpAnyU_all (rs := [8]) (by kernel_rfl) (by simp) (fun i hi => ?_)
              obtain rfl : i = 8 := by simpa using hi
              refine wpOpU_stepG rfl (by rfl) (fun K hK => ?_)
              go_simp
              refine (presult_scope (t : Int) S12.out ik.out (by omega)).mono ?_
              rintro e w13 ⟨cv, ov, he, s13⟩
              rw [Hres.out] at he s13
              subst he
              have h13 : Chg [] w w13 := s13.1
              have O13 := Lib.hid (PkS.of_owns (s13.owned' 1 rfl))
              have Q13 := Lib.hid (Q12.out.put (t : Int) 5 (resL (t : Int))); have S13 := Lib.hid (s13.tail1)
              have l13 : (σ12.put (t : Int) 5 (resL (t : Int))).log.length ≤ 7 * k + 8 * t + 2 := by simp [MS.put]; exact l12
              refine hK _ _ ⟨fun _ => h13, ?_⟩
              clear hK K s13 S12 h12
              generalize σ12.put (t : Int) 5 (resL (t : Int)) = σ13 at S13 Q13 l13
              try simp only [Act.put, List.getElem_toArray, List.getElem_cons_succ, List.getElem_cons_zero, List.setIfInBounds_toArray, List.set_cons_zero, List.set_cons_succ]
              refine wpAnyU_all (rs := [13]) (by kernel_rfl) (by simp) (fun i hi => ?_)
              obtain rfl : i = 13 := by simpa using hi
              refine wpOpU_stepG rfl (by rfl) (fun K hK => ?_)
              go_simp
              refine (retEq_any (a := r) (b := r) O13.out (Hps.out.chg h13) Hok.out.2.2).mono ?_
              rintro e w14 ⟨he, c14⟩
              rw [decide_eq_true rfl] at he
              subst he
              have h14 : Chg [] w w14 := h13.quiet c14
              have S14 := Lib.hid (S13.out.quiet c14)
              refine hK _ _ ⟨fun _ => h14, ?_⟩
              clear hK K c14 S13 h13 O13
              try simp only [Act.put, List.getElem_toArray, List.getElem_cons_succ, List.getElem_cons_zero, List.setIfInBounds_toArray, List.set_cons_zero, List.set_cons_succ]
              refine wpAnyU_take (i := 14) (v := ?_) rfl (by kernel_rfl) (by kernel_rfl) (by kernel_rfl) (by kernel_rfl) (fun _ _ _ h => h) (Or.inl ⟨by rfl, ?_⟩) h14 ?_
              rotate_left 1
              · (intro w' hS; (try dsimp only at hS); (try simp only [List.getElem_toArray, List.getElem_cons_succ, List.getElem_cons_zero]); go_simp; (try with_reducible rfl))
              try simp only [Act.put, List.getElem_toArray, List.getElem_cons_succ, List.getElem_cons_zero, List.setIfInBounds_toArray, List.set_cons_zero, List.set_cons_succ]
              refine wpAnyU_take (i := 15) (v := ?_) rfl (by kernel_rfl) (by kernel_rfl) (by kernel_rfl) (by kernel_rfl) (fun _ _ _ h => h) (Or.inl ⟨by rfl, ?_⟩) h14 ?_
              rotate_left 1
              · (intro w' hS; (try dsimp only at hS); (try simp only [List.getElem_toArray, List.getElem_cons_succ, List.getElem_cons_zero]); go_simp; (try with_reducible rfl))
              try simp only [Act.put, List.getElem_toArray, List.getElem_cons_succ, List.getElem_cons_zero, List.setIfInBounds_toArray, List.set_cons_zero, List.set_cons_succ]
              refine wpAnyU_done (by kernel_rfl) ?_ _
              obtain ⟨y0, y1, y2, y3⟩ := Hcc.out w14 h14
              clear h14
              go_wp2_with fail
              refine ((pask_does (t : Int) c ik.out (by omega)).at0 S14.out).mono ?_
              rintro e w15 ⟨rfl, s15⟩
              have Q15 := Lib.hid (Q13.out.put (t : Int) 6 (argL (t : Int))); have S15 := Lib.hid s15
              have l15 : (σ13.put (t : Int) 6 (argL (t : Int))).log.length ≤ 7 * k + 8 * t + 3 := by simp [MS.put]; exact l13
              clear s15 S14 y0 y1 y2 y3
              generalize σ13.put (t : Int) 6 (argL (t : Int)) = σ15 at S15 Q15 l15
              go_wp2_with fail
              refine ((pstate_does sv (t : Int) ik.out (by omega)).at0 S15.out).mono ?_
              rintro e w16 ⟨he, s16⟩
              rw [Q15.out.rq t hlt, if_neg (by omega)] at he
              subst he
              have Q16 := Lib.hid (Q15.out.put sv 1 (reqL (t : Int))); have S16 := Lib.hid s16
              have l16 : (σ15.put sv 1 (reqL (t : Int))).log.length ≤ 7 * k + 8 * t + 4 := by simp [MS.put]; exact l15
              clear s16 S15
              generalize σ15.put sv 1 (reqL (t : Int)) = σ16 at S16 Q16 l16
              go_wp2_with fail
              refine ((psend_does (t : Int) ik.out (by omega)).at0 S16.out).mono ?_
              rintro e w17 ⟨rfl, s17⟩
              have Q17 := Lib.hid ((Q16.out.put (t : Int) 2 (reqL (t : Int))).turn (j := t) (v := 1) (f' := fun i => if i < t + 1 then 1 else 2) (fun i _ => by
                by_cases e : i = t
                · subst e; simp
                · simp only [if_neg e]
                  by_cases e2 : i < t
                  · rw [if_pos e2, if_pos (by omega)]
                  · rw [if_neg e2, if_neg (by omega)])); have S17 := Lib.hid s17
              have l17 : ((σ16.put (t : Int) 2 (reqL (t : Int))).set (reqL (t : Int)) 1).log.length ≤ 7 * k + 8 * t + 5 := by simp [MS.put, MS.set]; exact l16
              clear s17 S16
              generalize (σ16.put (t : Int) 2 (reqL (t : Int))).set (reqL (t : Int)) 1 = σ17 at S17 Q17 l17
              have h0 : Chg [] w (World.drew _) := S17.out.drew.1
              have S17d := Lib.hid S17.out.drew
              clear S17
              go_wp2_with fail
              refine wp_region_any (by kernel_rfl) ?_
              change wpAny _ _ _ _ _ _ _ (World.drew _)
              refine wpAny_of_U (S := fun w' => Chg [] w w') (U := [0, 1, 2, 3, 4, 5, 6, 7, 8, 9, 10, 11, 12, 13, 14, 15, 16, 17, 18, 19, 20, 21, 22, 23, 24, 25, 26, 27, 28, 29]) _ _ _ _ ?_
              refine wpAnyU_take (i := 0) (v := ?_) rfl (by kernel_rfl) (by kernel_rfl) (by kernel_rfl) (by kernel_rfl) (fun _ _ _ h => h) (Or.inl ⟨by rfl, ?_⟩) h0 ?_
              rotate_left 1
              · (intro w' hS; (try dsimp only at hS); (try simp only [List.getElem_toArray, List.getElem_cons_succ, List.getElem_cons_zero]); go_simp; (try with_reducible rfl))
              try simp only [Act.put, List.getElem_toArray, List.getElem_cons_succ, List.getElem_cons_zero, List.setIfInBounds_toArray, List.set_cons_zero, List.set_cons_succ]
              refine wpAnyU_take (i := 1) (v := ?_) rfl (by kernel_rfl) (by kernel_rfl) (by kernel_rfl) (by kernel_rfl) (fun _ _ _ h => h) (Or.inl ⟨by rfl, ?_⟩) h0 ?_
              rotate_left 1
              · (intro w' hS; (try dsimp only at hS); (try simp only [List.getElem_toArray, List.getElem_cons_succ, List.getElem_cons_zero]); go_simp; (try with_reducible rfl))
              try simp only [Act.put, List.getElem_toArray, List.getElem_cons_succ, List.getElem_cons_zero, List.setIfInBounds_toArray, List.set_cons_zero, List.set_cons_succ]
              refine wpAnyU_take (i := 2) (v := ?_) rfl (by kernel_rfl) (by kernel_rfl) (by kernel_rfl) (by kernel_rfl) (fun _ _ _ h => h) (Or.inl ⟨by rfl, ?_⟩) h0 ?_
              rotate_left 1
              · (intro w' hS; (try dsimp only at hS); (try simp only [List.getElem_toArray, List.getElem_cons_succ, List.getElem_cons_zero]); go_simp; (try with_reducible rfl))
              try simp only [Act.put, List.getElem_toArray, List.getElem_cons_succ, List.getElem_cons_zero, List.setIfInBounds_toArray, List.set_cons_zero, List.set_cons_succ]
              refine wpAnyU_all (rs := [3]) (by kernel_rfl) (by simp) (fun i hi => ?_)
              obtain rfl : i = 3 := by simpa using hi
              refine wpOpU_stepG rfl (by rfl) (fun K hK => ?_)
              go_simp
              refine ((pstate_does sv (t : Int) ik.out (by omega)).at0 S17d.out).mono ?_
              rintro e w18 ⟨he, s18⟩
              rw [Q17.out.rq t hlt, if_pos (by omega)] at he
              subst he
              have h18 : Chg [] w w18 := s18.1
              have Q18 := Lib.hid (Q17.out.put sv 1 (reqL (t : Int))); have S18 := Lib.hid s18
              have l18 : (σ17.put sv 1 (reqL (t : Int))).log.length ≤ 7 * k + 8 * t + 6 := by simp [MS.put]; exact l17
              refine hK _ _ ⟨fun _ => h18, ?_⟩
              clear hK K s18 S17d h0
              generalize σ17.put sv 1 (reqL (t : Int)) = σ18 at S18 Q18 l18
              try simp only [Act.put, List.getElem_toArray, List.getElem_cons_succ, List.getElem_cons_zero, List.setIfInBounds_toArray, List.set_cons_zero, List.set_cons_succ]
              refine wpAnyU_take (i := 4) (v := ?_) rfl (by kernel_rfl) (by kernel_rfl) (by kernel_rfl) (by kernel_rfl) (fun _ _ _ h => h) (Or.inl ⟨by rfl, ?_⟩) h18 ?_
              rotate_left 1
              · (intro w' hS; obtain ⟨z0, z1, z2, z3⟩ := Hcc.out w' hS; (try dsimp only at hS); (try simp only [List.getElem_toArray, List.getElem_cons_succ, List.getElem_cons_zero]); go_simp; (try with_reducible rfl))
              try simp only [Act.put, List.getElem_toArray, List.getElem_cons_succ, List.getElem_cons_zero, List.setIfInBounds_toArray, List.set_cons_zero, List.set_cons_succ]
              refine wpAnyU_take (i := 5) (v := ?_) rfl (by kernel_rfl) (by kernel_rfl) (by kernel_rfl) (by kernel_rfl) (fun _ _ _ h => h) (Or.inl ⟨by rfl, ?_⟩) h18 ?_
              rotate_left 1
              · (intro w' hS; obtain ⟨z0, z1, z2, z3⟩ := Hcc.out w' hS; (try dsimp only at hS); (try simp only [List.getElem_toArray, List.getElem_cons_succ, List.getElem_cons_zero]); go_simp; (try with_reducible rfl))
              try simp only [Act.put, List.getElem_toArray, List.getElem_cons_succ, List.getElem_cons_zero, List.setIfInBounds_toArray, List.set_cons_zero, List.set_cons_succ]
              refine wpAnyU_take (i := 6) (v := ?_) rfl (by kernel_rfl) (by kernel_rfl) (by kernel_rfl) (by kernel_rfl) (fun _ _ _ h => h) (Or.inl ⟨by rfl, ?_⟩) h18 ?_
              rotate_left 1
              · (intro w' hS; obtain ⟨z0, z1, z2, z3⟩ := Hcc.out w' hS; (try dsimp only at hS); (try simp only [List.getElem_toArray, List.getElem_cons_succ, List.getElem_cons_zero]); go_simp; (try with_reducible rfl))
              try simp only [Act.put, List.getElem_toArray, List.getElem_cons_succ, List.getElem_cons_zero, List.setIfInBounds_toArray, List.set_cons_zero, List.set_cons_succ]
              refine wpAnyU_take (i := 7) (v := ?_) rfl (by kernel_rfl) (by kernel_rfl) (by kernel_rfl) (by kernel_rfl) (fun _ _ _ h => h) (Or.inl ⟨by rfl, ?_⟩) h18 ?_
              rotate_left 1
              · (intro w' hS; obtain ⟨z0, z1, z2, z3⟩ := Hcc.out w' hS; (try dsimp only at hS); (try simp only [List.getElem_toArray, List.getElem_cons_succ, List.getElem_cons_zero]); go_simp; (try with_reducible rfl))
              try simp only [Act.put, List.getElem_toArray, List.getElem_cons_succ, List.getElem_cons_zero, List.setIfInBounds_toArray, List.set_cons_zero, List.set_cons_succ]
              refine wpAnyU_take (i := 8) (v := ?_) rfl (by kernel_rfl) (by kernel_rfl) (by kernel_rfl) (by kernel_rfl) (fun _ _ _ h => h) (Or.inl ⟨by rfl, ?_⟩) h18 ?_
              rotate_left 1
              · (intro w' hS; obtain ⟨z0, z1, z2, z3⟩ := Hcc.out w' hS; (try dsimp only at hS); (try simp only [List.getElem_toArray, List.getElem_cons_succ, List.getElem_cons_zero]); go_simp; (try with_reducible rfl))
              try simp only [Act.put, List.getElem_toArray, List.getElem_cons_succ, List.getElem_cons_zero, List.setIfInBounds_toArray, List.set_cons_zero, List.set_cons_succ]
              refine wpAnyU_take (i := 10) (v := ?_) rfl (by kernel_rfl) (by kernel_rfl) (by kernel_rfl) (by kernel_rfl) (fun _ _ _ h => h) (Or.inl ⟨by rfl, ?_⟩) h18 ?_
              rotate_left 1
              · (intro w' hS; obtain ⟨z0, z1, z2, z3⟩ := Hcc.out w' hS; (try dsimp only at hS); (try simp only [List.getElem_toArray, List.getElem_cons_succ, List.getElem_cons_zero]); go_simp; (try with_reducible rfl))
              try simp only [Act.put, List.getElem_toArray, List.getElem_cons_succ, List.getElem_cons_zero, List.setIfInBounds_toArray, List.set_cons_zero, List.set_cons_succ]
              refine wpAnyU_take (i := 11) (v := ?_) rfl (by kernel_rfl) (by kernel_rfl) (by kernel_rfl) (by kernel_rfl) (fun _ _ _ h => h) (Or.inl ⟨by rfl, ?_⟩) h18 ?_
              rotate_left 1
              · (intro w' hS; obtain ⟨z0, z1, z2, z3⟩ := Hcc.out w' hS; (try dsimp only at hS); (try simp only [List.getElem_toArray, List.getElem_cons_succ, List.getElem_cons_zero]); go_simp; (try with_reducible rfl))
              try simp only [Act.put, List.getElem_toArray, List.getElem_cons_succ, List.getElem_cons_zero, List.setIfInBounds_toArray, List.set_cons_zero, List.set_cons_succ]
              refine wpAnyU_take (i := 12) (v := ?_) rfl (by kernel_rfl) (by kernel_rfl) (by kernel_rfl) (by kernel_rfl) (fun _ _ _ h => h) (Or.inl ⟨by rfl, ?_⟩) h18 ?_
              rotate_left 1
              · (intro w' hS; obtain ⟨z0, z1, z2, z3⟩ := Hcc.out w' hS; (try dsimp only at hS); (try simp only [List.getElem_toArray, List.getElem_cons_succ, List.getElem_cons_zero]); go_simp; (try with_reducible rfl))
              try simp only [Act.put, List.getElem_toArray, List.getElem_cons_succ, List.getElem_cons_zero, List.setIfInBounds_toArray, List.set_cons_zero, List.set_cons_succ]
              refine wpAnyU_take (i := 13) (v := ?_) rfl (by kernel_rfl) (by kernel_rfl) (by kernel_rfl) (by kernel_rfl) (fun _ _ _ h => h) (Or.inl ⟨by rfl, ?_⟩) h18 ?_
              rotate_left 1
              · (intro w' hS; obtain ⟨z0, z1, z2, z3⟩ := Hcc.out w' hS; (try dsimp only at hS); (try simp only [List.getElem_toArray, List.getElem_cons_succ, List.getElem_cons_zero]); go_simp; (try with_reducible rfl))
              try simp only [Act.put, List.getElem_toArray, List.getElem_cons_succ, List.getElem_cons_zero, List.setIfInBounds_toArray, List.set_cons_zero, List.set_cons_succ]
              refine wpAnyU_take (i := 14) (v := ?_) rfl (by kernel_rfl) (by kernel_rfl) (by kernel_rfl) (by kernel_rfl) (fun _ _ _ h => h) (Or.inl ⟨by rfl, ?_⟩) h18 ?_
              rotate_left 1
              · (intro w' hS; obtain ⟨z0, z1, z2, z3⟩ := Hcc.out w' hS; (try dsimp only at hS); (try simp only [List.getElem_toArray, List.getElem_cons_succ, List.getElem_cons_zero]); go_simp; (try with_reducible rfl))
              try simp only [Act.put, List.getElem_toArray, List.getElem_cons_succ, List.getElem_cons_zero, List.setIfInBounds_toArray, List.set_cons_zero, List.set_cons_succ]
              refine wpAnyU_take (i := 15) (v := ?_) rfl (by kernel_rfl) (by kernel_rfl) (by kernel_rfl) (by kernel_rfl) (fun _ _ _ h => h) (Or.inl ⟨by rfl, ?_⟩) h18 ?_
              rotate_left 1
              · (intro w' hS; obtain ⟨z0, z1, z2, z3⟩ := Hcc.out w' hS; (try dsimp only at hS); (try simp only [List.getElem_toArray, List.getElem_cons_succ, List.getElem_cons_zero]); go_simp; (try with_reducible rfl))
              try simp only [Act.put, List.getElem_toArray, List.getElem_cons_succ, List.getElem_cons_zero, List.setIfInBounds_toArray, List.set_cons_zero, List.set_cons_succ]
              refine wpAnyU_take (i := 16) (v := ?_) rfl (by kernel_rfl) (by kernel_rfl) (by kernel_rfl) (by kernel_rfl) (fun _ _ _ h => h) (Or.inl ⟨by rfl, ?_⟩) h18 ?_
              rotate_left 1
              · (intro w' hS; obtain ⟨z0, z1, z2, z3⟩ := Hcc.out w' hS; (try dsimp only at hS); (try simp only [List.getElem_toArray, List.getElem_cons_succ, List.getElem_cons_zero]); go_simp; (try with_reducible rfl))
              try simp only [Act.put, List.getElem_toArray, List.getElem_cons_succ, List.getElem_cons_zero, List.setIfInBounds_toArray, List.set_cons_zero, List.set_cons_succ]
              refine wpAnyU_all (rs := [9]) (by kernel_rfl) (by simp) (fun i hi => ?_)
              obtain rfl : i = 9 := by simpa using hi
              refine wpOpU_stepG rfl (by rfl) (fun K hK => ?_)
              go_simp
              refine ((parg_does sv (t : Int) ik.out (by omega)).at0 S18.out).mono ?_
              rintro e w19 ⟨he, s19⟩
              rw [lastOf_snoc, if_pos rfl] at he
              subst he
              have h19 : Chg [] w w19 := s19.1
              have Q19 := Lib.hid (Q18.out.put sv 5 (argL (t : Int))); have S19 := Lib.hid s19
              have l19 : (σ18.put sv 5 (argL (t : Int))).log.length ≤ 7 * k + 8 * t + 7 := by simp [MS.put]; exact l18
              refine hK _ _ ⟨fun _ => h19, ?_⟩
              clear hK K s19 S18 h18
              generalize σ18.put sv 5 (argL (t : Int)) = σ19 at S19 Q19 l19
              try simp only [Act.put, List.getElem_toArray, List.getElem_cons_succ, List.getElem_cons_zero, List.setIfInBounds_toArray, List.set_cons_zero, List.set_cons_succ]
              refine wpAnyU_take (i := 17) (v := ?_) rfl (by kernel_rfl) (by kernel_rfl) (by kernel_rfl) (by kernel_rfl) (fun _ _ _ h => h) (Or.inl ⟨by rfl, ?_⟩) h19 ?_
              rotate_left 1
              · (intro w' hS; have ec := equal_call_same c w'; obtain ⟨z0, z1, z2, z3⟩ := Hrc.out w' hS; (try dsimp only at hS); (try simp only [List.getElem_toArray, List.getElem_cons_succ, List.getElem_cons_zero]); go_simp; (try with_reducible rfl))
              try simp only [Act.put, List.getElem_toArray, List.getElem_cons_succ, List.getElem_cons_zero, List.setIfInBounds_toArray, List.set_cons_zero, List.set_cons_succ]
              refine wpAnyU_take (i := 18) (v := ?_) rfl (by kernel_rfl) (by kernel_rfl) (by kernel_rfl) (by kernel_rfl) (fun _ _ _ h => h) (Or.inl ⟨by rfl, ?_⟩) h19 ?_
              rotate_left 1
              · (intro w' hS; have ec := equal_call_same c w'; obtain ⟨z0, z1, z2, z3⟩ := Hrc.out w' hS; (try dsimp only at hS); (try simp only [List.getElem_toArray, List.getElem_cons_succ, List.getElem_cons_zero]); go_simp; (try with_reducible rfl))
              try simp only [Act.put, List.getElem_toArray, List.getElem_cons_succ, List.getElem_cons_zero, List.setIfInBounds_toArray, List.set_cons_zero, List.set_cons_succ]
              refine wpAnyU_take (i := 19) (v := ?_) rfl (by kernel_rfl) (by kernel_rfl) (by kernel_rfl) (by kernel_rfl) (fun _ _ _ h => h) (Or.inl ⟨by rfl, ?_⟩) h19 ?_
              rotate_left 1
              · (intro w' hS; have ec := equal_call_same c w'; obtain ⟨z0, z1, z2, z3⟩ := Hrc.out w' hS; (try dsimp only at hS); (try simp only [List.getElem_toArray, List.getElem_cons_succ, List.getElem_cons_zero]); go_simp; (try with_reducible rfl))
              try simp only [Act.put, List.getElem_toArray, List.getElem_cons_succ, List.getElem_cons_zero, List.setIfInBounds_toArray, List.set_cons_zero, List.set_cons_succ]
              refine wpAnyU_take (i := 20) (v := ?_) rfl (by kernel_rfl) (by kernel_rfl) (by kernel_rfl) (by kernel_rfl) (fun _ _ _ h => h) (Or.inl ⟨by rfl, ?_⟩) h19 ?_
              rotate_left 1
              · (intro w' hS; have ec := equal_call_same c w'; obtain ⟨z0, z1, z2, z3⟩ := Hrc.out w' hS; (try dsimp only at hS); (try simp only [List.getElem_toArray, List.getElem_cons_succ, List.getElem_cons_zero]); go_simp; (try with_reducible rfl))
              try simp only [Act.put, List.getElem_toArray, List.getElem_cons_succ, List.getElem_cons_zero, List.setIfInBounds_toArray, List.set_cons_zero, List.set_cons_succ]
              refine wpAnyU_take (i := 21) (v := ?_) rfl (by kernel_rfl) (by kernel_rfl) (by kernel_rfl) (by kernel_rfl) (fun _ _ _ h => h) (Or.inl ⟨by rfl, ?_⟩) h19 ?_
              rotate_left 1
              · (intro w' hS; have ec := equal_call_same c w'; obtain ⟨z0, z1, z2, z3⟩ := Hrc.out w' hS; (try dsimp only at hS); (try simp only [List.getElem_toArray, List.getElem_cons_succ, List.getElem_cons_zero]); go_simp; (try with_reducible rfl))
              try simp only [Act.put, List.getElem_toArray, List.getElem_cons_succ, List.getElem_cons_zero, List.setIfInBounds_toArray, List.set_cons_zero, List.set_cons_succ]
              refine wpAnyU_take (i := 23) (v := ?_) rfl (by kernel_rfl) (by kernel_rfl) (by kernel_rfl) (by kernel_rfl) (fun _ _ _ h => h) (Or.inl ⟨by rfl, ?_⟩) h19 ?_
              rotate_left 1
              · (intro w' hS; have ec := equal_call_same c w'; obtain ⟨z0, z1, z2, z3⟩ := Hrc.out w' hS; (try dsimp only at hS); (try simp only [List.getElem_toArray, List.getElem_cons_succ, List.getElem_cons_zero]); go_simp; (try with_reducible rfl))
              try simp only [Act.put, List.getElem_toArray, List.getElem_cons_succ, List.getElem_cons_zero, List.setIfInBounds_toArray, List.set_cons_zero, List.set_cons_succ]
              refine wpAnyU_take (i := 24) (v := ?_) rfl (by kernel_rfl) (by kernel_rfl) (by kernel_rfl) (by kernel_rfl) (fun _ _ _ h => h) (Or.inl ⟨by rfl, ?_⟩) h19 ?_
              rotate_left 1
              · (intro w' hS; have ec := equal_call_same c w'; obtain ⟨z0, z1, z2, z3⟩ := Hrc.out w' hS; (try dsimp only at hS); (try simp only [List.getElem_toArray, List.getElem_cons_succ, List.getElem_cons_zero]); go_simp; (try with_reducible rfl))
              try simp only [Act.put, List.getElem_toArray, List.getElem_cons_succ, List.getElem_cons_zero, List.setIfInBounds_toArray, List.set_cons_zero, List.set_cons_succ]
              refine wpAnyU_take (i := 25) (v := ?_) rfl (by kernel_rfl) (by kernel_rfl) (by kernel_rfl) (by kernel_rfl) (fun _ _ _ h => h) (Or.inl ⟨by rfl, ?_⟩) h19 ?_
              rotate_left 1
              · (intro w' hS; have ec := equal_call_same c w'; obtain ⟨z0, z1, z2, z3⟩ := Hrc.out w' hS; (try dsimp only at hS); (try simp only [List.getElem_toArray, List.getElem_cons_succ, List.getElem_cons_zero]); go_simp; (try with_reducible rfl))
              try simp only [Act.put, List.getElem_toArray, List.getElem_cons_succ, List.getElem_cons_zero, List.setIfInBounds_toArray, List.set_cons_zero, List.set_cons_succ]
              refine wpAnyU_take (i := 26) (v := ?_) rfl (by kernel_rfl) (by kernel_rfl) (by kernel_rfl) (by kernel_rfl) (fun _ _ _ h => h) (Or.inl ⟨by rfl, ?_⟩) h19 ?_
              rotate_left 1
              · (intro w' hS; have ec := equal_call_same c w'; obtain ⟨z0, z1, z2, z3⟩ := Hrc.out w' hS; (try dsimp only at hS); (try simp only [List.getElem_toArray, List.getElem_cons_succ, List.getElem_cons_zero]); go_simp; (try with_reducible rfl))
              try simp only [Act.put, List.getElem_toArray, List.getElem_cons_succ, List.getElem_cons_zero, List.setIfInBounds_toArray, List.set_cons_zero, List.set_cons_succ]
              refine wpAnyU_all (rs := [22]) (by kernel_rfl) (by simp) (fun i hi => ?_)
              obtain rfl : i = 22 := by simpa using hi
              refine wpOpU_stepG rfl (by rfl) (fun K hK => ?_)
              go_simp
              refine (presult_scope (t : Int) S19.out ik.out (by omega)).mono ?_
              rintro e w20 ⟨cv, ov, he, s20⟩
              rw [Hres.out] at he s20
              subst he
              have h20 : Chg [] w w20 := s20.1
              have O20 := Lib.hid (PkS.of_owns (s20.owned' 1 rfl))
              have Q20 := Lib.hid (Q19.out.put (t : Int) 5 (resL (t : Int))); have S20 := Lib.hid (s20.tail1)
              have l20 : (σ19.put (t : Int) 5 (resL (t : Int))).log.length ≤ 7 * k + 8 * t + 8 := by simp [MS.put]; exact l19
              refine hK _ _ ⟨fun _ => h20, ?_⟩
              clear hK K s20 S19 h19
              generalize σ19.put (t : Int) 5 (resL (t : Int)) = σ20 at S20 Q20 l20
              try simp only [Act.put, List.getElem_toArray, List.getElem_cons_succ, List.getElem_cons_zero, List.setIfInBounds_toArray, List.set_cons_zero, List.set_cons_succ]
              refine wpAnyU_all (rs := [27]) (by kernel_rfl) (by simp) (fun i hi => ?_)
              obtain rfl : i = 27 := by simpa using hi
              refine wpOpU_stepG rfl (by rfl) (fun K hK => ?_)
              go_simp
              refine (retEq_any (a := r) (b := r) O20.out (Hps.out.chg h20) Hok.out.2.2).mono ?_
              rintro e w21 ⟨he, c21⟩
              rw [decide_eq_true rfl] at he
              subst he
              have h21 : Chg [] w w21 := h20.quiet c21
              have S21 := Lib.hid (S20.out.quiet c21)
              refine hK _ _ ⟨fun _ => h21, ?_⟩
              clear hK K c21 S20 h20 O20
              try simp only [Act.put, List.getElem_toArray, List.getElem_cons_succ, List.getElem_cons_zero, List.setIfInBounds_toArray, List.set_cons_zero, List.set_cons_succ]
              refine wpAnyU_take (i := 28) (v := ?_) rfl (by kernel_rfl) (by kernel_rfl) (by kernel_rfl) (by kernel_rfl) (fun _ _ _ h => h) (Or.inl ⟨by rfl, ?_⟩) h21 ?_
              rotate_left 1
              · (intro w' hS; (try dsimp only at hS); (try simp only [List.getElem_toArray, List.getElem_cons_succ, List.getElem_cons_zero]); go_simp; (try with_reducible rfl))
              try simp only [Act.put, List.getElem_toArray, List.getElem_cons_succ, List.getElem_cons_zero, List.setIfInBounds_toArray, List.set_cons_zero, List.set_cons_succ]
              refine wpAnyU_take (i := 29) (v := ?_) rfl (by kernel_rfl) (by kernel_rfl) (by kernel_rfl) (by kernel_rfl) (fun _ _ _ h => h) (Or.inl ⟨by rfl, ?_⟩) h21 ?_
              rotate_left 1
              · (intro w' hS; (try dsimp only at hS); (try simp only [List.getElem_toArray, List.getElem_cons_succ, List.getElem_cons_zero]); go_simp; (try with_reducible rfl))
              try simp only [Act.put, List.getElem_toArray, List.getElem_cons_succ, List.getElem_cons_zero, List.setIfInBounds_toArray, List.set_cons_zero, List.set_cons_succ]
              refine wpAnyU_done (by kernel_rfl) ?_ _
              clear h21
              go_wp2_with fail
              go_roundw
              case rel => exact ⟨t + 1, σ20, _, by omega, by go_num, by omega, Q20.out, S21.out⟩
              case measure => simp [intOf]; omega
            · have et : t = k := by omega
              subst et
              go_wp2
              go_ret
              exact ⟨rfl, S11.out.below⟩
        | succ t =>
          have ejt : ((t + 1 : Nat) : Int) - 1 = (t : Int) := by omega
          rw [ejt]
          clear ejt
          obtain ⟨c, hcl⟩ : ∃ u, LC[t]? = some u := ⟨_, List.getElem?_eq_getElem (by rw [← HNC.out]; omega)⟩
          obtain ⟨g, off, rfl, hcc⟩ := HelC.out t c hcl
          obtain ⟨r, hrl⟩ : ∃ u, LR[t]? = some u := ⟨_, List.getElem?_eq_getElem (by rw [← HNR.out]; omega)⟩
          obtain ⟨hok, g', off', s, rfl, hps, hrc⟩ := HelR.out t r hrl
          have hgc : LC.getD t Cl.zero = c := by simp [List.getD, hcl]
          have hgr : LR.getD t Rt.zero = r := by simp [List.getD, hrl]
          have Hgc := Lib.hid hgc; have Hgr := Lib.hid hgr; have Hcc := Lib.hid hcc; have Hrc := Lib.hid hrc; have Hok := Lib.hid hok; have Hps := Lib.hid hps
          have ik := Lib.hid (show I64 (t : Int) from by unfold I64; omega)
          have i1 : (t : Int) < (NC : Int) := by omega
          have i2 : (t : Int) < (NR : Int) := by omega
          have i0 : (0 : Int) ≤ (t : Int) := by omega
          have h0 : Chg [] w (World.drew _) := S6.out.drew.1
          have S6d := Lib.hid S6.out.drew
          clear hcl hrl hcc hrc hok hps hgc hgr S6
          go_wp2_with fail
          refine wp_region_any (by kernel_rfl) ?_
          change wpAny _ _ _ _ _ _ _ (World.drew _)
          refine wpAny_of_U (S := fun w' => Chg [] w w') (U := [0, 1, 2, 3, 4, 5, 6, 7, 8, 9, 10, 11, 12, 13, 14, 15]) _ _ _ _ ?_
          refine wpAnyU_take (i := 0) (v := ?_) rfl (by kernel_rfl) (by kernel_rfl) (by kernel_rfl) (by kernel_rfl) (fun _ _ _ h => h) (Or.inl ⟨by rfl, ?_⟩) h0 ?_
          rotate_left 1
          · (intro w' hS; (try dsimp only at hS); (try simp only [List.getElem_toArray, List.getElem_cons_succ, List.getElem_cons_zero]); go_simp; (try with_reducible rfl))
          try simp only [Act.put, List.getElem_toArray, List.getElem_cons_succ, List.getElem_cons_zero, List.setIfInBounds_toArray, List.set_cons_zero, List.set_cons_succ]
          refine wpAnyU_take (i := 1) (v := ?_) rfl (by kernel_rfl) (by kernel_rfl) (by kernel_rfl) (by kernel_rfl) (fun _ _ _ h => h) (Or.inl ⟨by rfl, ?_⟩) h0 ?_
          rotate_left 1
          · (intro w' hS; (try dsimp only at hS); (try simp only [List.getElem_toArray, List.getElem_cons_succ, List.getElem_cons_zero]); go_simp; (try with_reducible rfl))
          try simp only [Act.put, List.getElem_toArray, List.getElem_cons_succ, List.getElem_cons_zero, List.setIfInBounds_toArray, List.set_cons_zero, List.set_cons_succ]
          refine wpAnyU_take (i := 2) (v := ?_) rfl (by kernel_rfl) (by kernel_rfl) (by kernel_rfl) (by kernel_rfl) (fun _ _ _ h => h) (Or.inl ⟨by rfl, ?_⟩) h0 ?_
          rotate_left 1
          · (intro w' hS; (try dsimp only at hS); (try simp only [List.getElem_toArray, List.getElem_cons_succ, List.getElem_cons_zero]); go_simp; (try with_reducible rfl))
          try simp only [Act.put, List.getElem_toArray, List.getElem_cons_succ, List.getElem_cons_zero, List.setIfInBounds_toArray, List.set_cons_zero, List.set_cons_succ]
          refine wpAnyU_all (rs := [3]) (by kernel_rfl) (by simp) (fun i hi => ?_)
          obtain rfl : i = 3 := by simpa using hi
          refine wpOpU_stepG rfl (by rfl) (fun K hK => ?_)
          go_simp
          refine ((pstate_does sv (t : Int) ik.out (by omega)).at0 S6d.out).mono ?_
          rintro e w7 ⟨he, s7⟩
          rw [Q6.out.rq t (by omega), if_pos (by omega)] at he
          subst he
          have h7 : Chg [] w w7 := s7.1
          have Q7 := Lib.hid (Q6.out.put sv 1 (reqL (t : Int))); have S7 := Lib.hid s7
          have l7 : (σ6.put sv 1 (reqL (t : Int))).log.length ≤ 3 * k + 4 * (k - (t + 1)) + 1 := by simp [MS.put]; exact hlg6
          refine hK _ _ ⟨fun _ => h7, ?_⟩
          clear hK K s7 S6d h0
          generalize σ6.put sv 1 (reqL (t : Int)) = σ7 at S7 Q7 l7
          try simp only [Act.put, List.getElem_toArray, List.getElem_cons_succ, List.getElem_cons_zero, List.setIfInBounds_toArray, List.set_cons_zero, List.set_cons_succ]
          refine wpAnyU_take (i := 4) (v := ?_) rfl (by kernel_rfl) (by kernel_rfl) (by kernel_rfl) (by kernel_rfl) (fun _ _ _ h => h) (Or.inl ⟨by rfl, ?_⟩) h7 ?_
          rotate_left 1
          · (intro w' hS; obtain ⟨z0, z1, z2, z3⟩ := Hcc.out w' hS; (try dsimp only at hS); (try simp only [List.getElem_toArray, List.getElem_cons_succ, List.getElem_cons_zero]); go_simp; (try with_reducible rfl))
          try simp only [Act.put, List.getElem_toArray, List.getElem_cons_succ, List.getElem_cons_zero, List.setIfInBounds_toArray, List.set_cons_zero, List.set_cons_succ]
          refine wpAnyU_take (i := 5) (v := ?_) rfl (by kernel_rfl) (by kernel_rfl) (by kernel_rfl) (by kernel_rfl) (fun _ _ _ h => h) (Or.inl ⟨by rfl, ?_⟩) h7 ?_
          rotate_left 1
          · (intro w' hS; obtain ⟨z0, z1, z2, z3⟩ := Hcc.out w' hS; (try dsimp only at hS); (try simp only [List.getElem_toArray, List.getElem_cons_succ, List.getElem_cons_zero]); go_simp; (try with_reducible rfl))
          try simp only [Act.put, List.getElem_toArray, List.getElem_cons_succ, List.getElem_cons_zero, List.setIfInBounds_toArray, List.set_cons_zero, List.set_cons_succ]
          refine wpAnyU_take (i := 6) (v := ?_) rfl (by kernel_rfl) (by kernel_rfl) (by kernel_rfl) (by kernel_rfl) (fun _ _ _ h => h) (Or.inl ⟨by rfl, ?_⟩) h7 ?_
          rotate_left 1
          · (intro w' hS; obtain ⟨z0, z1, z2, z3⟩ := Hcc.out w' hS; (try dsimp only at hS); (try simp only [List.getElem_toArray, List.getElem_cons_succ, List.getElem_cons_zero]); go_simp; (try with_reducible rfl))
          try simp only [Act.put, List.getElem_toArray, List.getElem_cons_succ, List.getElem_cons_zero, List.setIfInBounds_toArray, List.set_cons_zero, List.set_cons_succ]
          refine wpAnyU_take (i := 7) (v := ?_) rfl (by kernel_rfl) (by kernel_rfl) (by kernel_rfl) (by kernel_rfl) (fun _ _ _ h => h) (Or.inl ⟨by rfl, ?_⟩) h7 ?_
          rotate_left 1
          · (intro w' hS; obtain ⟨z0, z1, z2, z3⟩ := Hcc.out w' hS; (try dsimp only at hS); (try simp only [List.getElem_toArray, List.getElem_cons_succ, List.getElem_cons_zero]); go_simp; (try with_reducible rfl))
          try simp only [Act.put, List.getElem_toArray, List.getElem_cons_succ, List.getElem_cons_zero, List.setIfInBounds_toArray, List.set_cons_zero, List.set_cons_succ]
          refine wpAnyU_take (i := 8) (v := ?_) rfl (by kernel_rfl) (by kernel_rfl) (by kernel_rfl) (by kernel_rfl) (fun _ _ _ h => h) (Or.inl ⟨by rfl, ?_⟩) h7 ?_
          rotate_left 1
          · (intro w' hS; obtain ⟨z0, z1, z2, z3⟩ := Hcc.out w' hS; (try dsimp only at hS); (try simp only [List.getElem_toArray, List.getElem_cons_succ, List.getElem_cons_zero]); go_simp; (try with_reducible rfl))
          try simp only [Act.put, List.getElem_toArray, List.getElem_cons_succ, List.getElem_cons_zero, List.setIfInBounds_toArray, List.set_cons_zero, List.set_cons_succ]
          refine wpAnyU_take (i := 10) (v := ?_) rfl (by kernel_rfl) (by kernel_rfl) (by kernel_rfl) (by kernel_rfl) (fun _ _ _ h => h) (Or.inl ⟨by rfl, ?_⟩) h7 ?_
          rotate_left 1
          · (intro w' hS; obtain ⟨z0, z1, z2, z3⟩ := Hcc.out w' hS; (try dsimp only at hS); (try simp only [List.getElem_toArray, List.getElem_cons_succ, List.getElem_cons_zero]); go_simp; (try with_reducible rfl))
          try simp only [Act.put, List.getElem_toArray, List.getElem_cons_succ, List.getElem_cons_zero, List.setIfInBounds_toArray, List.set_cons_zero, List.set_cons_succ]
          refine wpAnyU_take (i := 11) (v := ?_) rfl (by kernel_rfl) (by kernel_rfl) (by kernel_rfl) (by kernel_rfl) (fun _ _ _ h => h) (Or.inl ⟨by rfl, ?_⟩) h7 ?_
          rotate_left 1
          · (intro w' hS; obtain ⟨z0, z1, z2, z3⟩ := Hcc.out w' hS; (try dsimp only at hS); (try simp only [List.getElem_toArray, List.getElem_cons_succ, List.getElem_cons_zero]); go_simp; (try with_reducible rfl))
          try simp only [Act.put, List.getElem_toArray, List.getElem_cons_succ, List.getElem_cons_zero, List.setIfInBounds_toArray, List.set_cons_zero, List.set_cons_succ]
          refine wpAnyU_take (i := 12) (v := ?_) rfl (by kernel_rfl) (by kernel_rfl) (by kernel_rfl) (by kernel_rfl) (fun _ _ _ h => h) (Or.inl ⟨by rfl, ?_⟩) h7 ?_
          rotate_left 1
          · (intro w' hS; obtain ⟨z0, z1, z2, z3⟩ := Hcc.out w' hS; (try dsimp only at hS); (try simp only [List.getElem_toArray, List.getElem_cons_succ, List.getElem_cons_zero]); go_simp; (try with_reducible rfl))
          try simp only [Act.put, List.getElem_toArray, List.getElem_cons_succ, List.getElem_cons_zero, List.setIfInBounds_toArray, List.set_cons_zero, List.set_cons_succ]
          refine wpAnyU_take (i := 13) (v := ?_) rfl (by kernel_rfl) (by kernel_rfl) (by kernel_rfl) (by kernel_rfl) (fun _ _ _ h => h) (Or.inl ⟨by rfl, ?_⟩) h7 ?_
          rotate_left 1
          · (intro w' hS; obtain ⟨z0, z1, z2, z3⟩ := Hcc.out w' hS; (try dsimp only at hS); (try simp only [List.getElem_toArray, List.getElem_cons_succ, List.getElem_cons_zero]); go_simp; (try with_reducible rfl))
          try simp only [Act.put, List.getElem_toArray, List.getElem_cons_succ, List.getElem_cons_zero, List.setIfInBounds_toArray, List.set_cons_zero, List.set_cons_succ]
          refine wpAnyU_all (rs := [9]) (by kernel_rfl) (by simp) (fun i hi => ?_)
          obtain rfl : i = 9 := by simpa using hi
          refine wpOpU_stepG rfl (by rfl) (fun K hK => ?_)
          go_simp
          refine ((parg_does sv (t : Int) ik.out (by omega)).at0 S7.out).mono ?_
          rintro e w8 ⟨he, s8⟩
          have hlc : lastOf Cl.zero KC (t : Int) = c := (Hc.out t (by omega)).trans Hgc.out
          rw [hlc] at he
          subst he
          have h8 : Chg [] w w8 := s8.1
          have Q8 := Lib.hid (Q7.out.put sv 5 (argL (t : Int))); have S8 := Lib.hid s8
          have l8 : (σ7.put sv 5 (argL (t : Int))).log.length ≤ 3 * k + 4 * (k - (t + 1)) + 2 := by simp [MS.put]; exact l7
          refine hK _ _ ⟨fun _ => h8, ?_⟩
          clear hK K s8 S7 h7
          generalize σ7.put sv 5 (argL (t : Int)) = σ8 at S8 Q8 l8
          try simp only [Act.put, List.getElem_toArray, List.getElem_cons_succ, List.getElem_cons_zero, List.setIfInBounds_toArray, List.set_cons_zero, List.set_cons_succ]
          refine wpAnyU_take (i := 14) (v := ?_) rfl (by kernel_rfl) (by kernel_rfl) (by kernel_rfl) (by kernel_rfl) (fun _ _ _ h => h) (Or.inl ⟨by rfl, ?_⟩) h8 ?_
          rotate_left 1
          · (intro w' hS; have ec := equal_call_same c w'; (try dsimp only at hS); (try simp only [List.getElem_toArray, List.getElem_cons_succ, List.getElem_cons_zero]); go_simp; (try with_reducible rfl))
          try simp only [Act.put, List.getElem_toArray, List.getElem_cons_succ, List.getElem_cons_zero, List.setIfInBounds_toArray, List.set_cons_zero, List.set_cons_succ]
          refine wpAnyU_take (i := 15) (v := ?_) rfl (by kernel_rfl) (by kernel_rfl) (by kernel_rfl) (by kernel_rfl) (fun _ _ _ h => h) (Or.inl ⟨by rfl, ?_⟩) h8 ?_
          rotate_left 1
          · (intro w' hS; have ec := equal_call_same c w'; (try dsimp only at hS); (try simp only [List.getElem_toArray, List.getElem_cons_succ, List.getElem_cons_zero]); go_simp; (try with_reducible rfl))
          try simp only [Act.put, List.getElem_toArray, List.getElem_cons_succ, List.getElem_cons_zero, List.setIfInBounds_toArray, List.set_cons_zero, List.set_cons_succ]
          refine wpAnyU_done (by kernel_rfl) ?_ _
          clear h8
          obtain ⟨oq, cpp, es⟩ := Hps.out.form
          have es' := Lib.hid es
          obtain ⟨y0, y1, y2, y3⟩ := Hrc.out w8 S8.out.1
          clear es
          go_wp2_with fail
          refine (panswer_scope sv (t : Int) r s S8.out ik.out (fun X w' h => Hps.out.chg h.1) Hok.out.2.2 (by omega)).mono ?_
          rintro e w9 ⟨rfl, s9⟩
          have Q9 := Lib.hid (Q8.out.put sv 6 (resL (t : Int))); have S9 := Lib.hid s9
          have l9 : (σ8.put sv 6 (resL (t : Int))).log.length ≤ 3 * k + 4 * (k - (t + 1)) + 3 := by simp [MS.put]; exact l8
          clear s9 y0 y1 y2 y3
          generalize σ8.put sv 6 (resL (t : Int)) = σ9 at S9 Q9 l9
          go_wp2_with fail
          refine ((pready_does sv (t : Int) ik.out (by omega)).at0 S9.out).mono ?_
          rintro e w10 ⟨rfl, s10⟩
          have Q10 := Lib.hid ((Q9.out.put sv 2 (reqL (t : Int))).turn (j := t) (v := 2) (f' := fun i => if i < t then 1 else 2) (fun i _ => by
            by_cases e : i = t
            · subst e; simp
            · simp only [if_neg e]
              by_cases e2 : i < t
              · rw [if_pos e2, if_pos (by omega)]
              · rw [if_neg e2, if_neg (by omega)])); have S10 := Lib.hid s10
          have l10 : ((σ9.put sv 2 (reqL (t : Int))).set (reqL (t : Int)) 2).log.length ≤ 3 * k + 4 * (k - (t + 1)) + 4 := by simp [MS.put, MS.set]; exact l9
          clear s10
          generalize (σ9.put sv 2 (reqL (t : Int))).set (reqL (t : Int)) 2 = σ10 at S10 Q10 l10
          have wj : IntKind.i64.wrap ((t : Int) - 1) = (t : Int) - 1 := by rw [IntKind.wrap_i64]; omega
          go_wp2_with fail
          go_roundw
          case rel => exact ⟨t, σ10, _, by omega, by go_num, by omega, Q10.out, HR.out.snoc t r (fun _ => Hgr.out) (fun i ht hne => ⟨by omega, rfl⟩), S10.out⟩
          case measure => simp [intOf]
end Go.Proofs.Ytjipjhmcpjffcac
