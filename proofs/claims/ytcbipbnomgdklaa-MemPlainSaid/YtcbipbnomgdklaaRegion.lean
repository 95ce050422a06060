/- A region that draws its order, some of whose operations are loads of cells that a later phase of the same region writes: a load may be taken first as long as its cell is known WHILE IT IS STILL TO COME. -/
import Derived.Test.YtcbipbnomgdklaaBase
import Derived.OrdersHeld
import Derived.RegionTactic
set_option linter.unusedSimpArgs false
set_option linter.unusedVariables false
namespace Go.Proofs.Ytcbipbnomgdklaa
open Go

section
variable {P : Program} {ops : Array Oper} {Q : Exit → Act → World → Prop} {md : Region.Mode} {S : World → Prop} {U : List Nat}

/-- Whatever order is picked from here on; behind each operation of U S holds. (U: those that may come ahead of a load.) -/
def wpAnyU (P : Program) (md : Region.Mode) (ops : Array Oper) (Q : Exit → Act → World → Prop) (S : World → Prop) (U : List Nat) : Nat → Array Bool → Act → World → Prop
  | 0, listed, a, w => Region.ready md ops listed = [] ∧ Q .normal a w
  | fuel + 1, listed, a, w =>
    (Region.ready md ops listed = [] → Q .normal a w) ∧
    ∀ i ∈ Region.ready md ops listed, wpOp P ops Q i (fun a' w' => (U.contains i = true → S w') ∧ wpAnyU P md ops Q S U fuel (listed.setIfInBounds i true) a' w') a w

theorem wpAny_of_U : ∀ (fuel : Nat) (listed : Array Bool) (a : Act) (w : World), wpAnyU P md ops Q S U fuel listed a w → wpAny P md ops Q fuel listed a w
  | 0, _, _, _, h => h
  | fuel + 1, _, _, _, h => ⟨h.1, fun i hi => wpOp_mono (fun a' w' h' => wpAny_of_U fuel _ a' w' h'.2) (h.2 i hi)⟩

/-- Every operation that has not come up yet and is not one of U waits for number i. -/
def behind (md : Region.Mode) (ops : Array Oper) (listed : Array Bool) (U : List Nat) (i : Nat) : Bool :=
  (List.range ops.size).all fun j => listed.getD j true || U.contains j || match ops[j]? with
    | some o => o.after.any fun e => Region.binds md e && e.on == i
    | none => true

theorem behind_spec {i j : Nat} {o : Oper} {listed : Array Bool} (h : behind md ops listed U i = true) (hl : listed.getD j true = false) (hj : ops[j]? = some o) (hn : U.contains j = false) : ∃ e ∈ o.after, Region.binds md e = true ∧ e.on = i := by
  unfold behind at h
  rw [List.all_eq_true] at h
  have := h j (List.mem_range.2 (Array.getElem?_eq_some_iff.1 hj).1)
  rw [hn, hj, hl] at this
  simp only [Bool.false_or] at this
  obtain ⟨e, he, hb⟩ := Array.any_eq_true'.1 this
  simp only [Bool.and_eq_true, beq_iff_eq] at hb
  exact ⟨e, he, hb⟩

theorem wpAnyU_first {i : Nat} {oi : Oper} {v : Value} {S' : World → Prop} {l0 : Array Bool} (hi : ops[i]? = some oi) (hback : ∀ w, S' w → U.contains i = true → S w)
    (hSS : ∀ (j : Nat) (oj : Oper) (w : World), l0.getD j true = false → ops[j]? = some oj → (∀ e ∈ oj.after, Region.binds md e = true → e.on ≠ i) → (U.contains j = true → S w) → S' w) (hsel : ∀ (j : Nat) (o : Oper) cs b, ops[j]? = some o → o.op ≠ .select cs b)
    (hQ : ∀ c a w, Q (.panic c) (a.put oi.dst v) w → Q (.panic c) a w) :
    ∀ (fuel : Nat) (listed : Array Bool) (a : Act) (w : World), (∀ j, listed.getD j true = false → l0.getD j true = false) →
      (∀ j oj, ops[j]? = some oj → j ≠ i → listed.getD j true = false → (∀ e ∈ oj.after, Region.binds md e = true → e.on ≠ i) → oi.apart ops oj = true) →
      i ∈ Region.ready md ops listed → YieldsIf P ops S' oi v a → S' w →
      wpAnyU P md ops Q S U fuel (listed.setIfInBounds i true) (a.put oi.dst v) w → wpAnyU P md ops Q S U (fuel + 1) listed a w := by
  intro fuel
  induction fuel with
  | zero =>
    intro listed a w _ _ hr hy hS H
    refine ⟨fun h => (by rw [h] at hr; cases hr), fun j hj => ?_⟩
    by_cases hji : j = i
    · subst hji
      exact hy.wpOp hi hS ⟨hback _ hS, H⟩
    · have hm := ready_mono hj hji
      rw [H.1] at hm
      cases hm
  | succ fuel ih =>
    intro listed a w hl0 hfree hr hy hS H
    refine ⟨fun h => (by rw [h] at hr; cases hr), fun j hj => ?_⟩
    by_cases hji : j = i
    · subst hji
      exact hy.wpOp hi hS ⟨hback _ hS, H⟩
    · have hstep := H.2 j (ready_mono hj hji)
      obtain ⟨hjun, oj, hoj, hall⟩ := mem_ready.1 hj
      have hiun := (mem_ready.1 hr).1
      have hnot : ∀ e ∈ oj.after, Region.binds md e = true → e.on ≠ i := fun e he hb heq => by
        have h1 := hall e he hb
        rw [heq] at h1
        rcases Nat.lt_or_ge i listed.size with h' | h'
        · simp [h'] at hiun h1; rw [hiun] at h1; cases h1
        · simp [Array.getElem?_eq_none h'] at h1
      have hl1 : ∀ k, (listed.setIfInBounds j true).getD k true = false → l0.getD k true = false := fun k hk => by
        by_cases e : j = k
        · subst e; exact hl0 j hjun
        · rw [getD_set_ne true e] at hk; exact hl0 k hk
      have hput := wpOp_putIf hoj (hfree j oj hoj hji hjun hnot) (fun cs b => hsel i oi cs b hi) (fun cs b => hsel j oj cs b hoj) hQ hy hstep
      have hfree' : ∀ k ok, ops[k]? = some ok → k ≠ i → (listed.setIfInBounds j true).getD k true = false → (∀ e ∈ ok.after, Region.binds md e = true → e.on ≠ i) → oi.apart ops ok = true := fun k ok hk hki hun hno => by
        refine hfree k ok hk hki ?_ hno
        by_cases hjk : j = k
        · subst hjk; exact hjun
        · rw [getD_set_ne true hjk] at hun; exact hun
      refine wpOp_mono (fun a' w' h3 => ⟨h3.2.1, ih (listed.setIfInBounds j true) a' w' hl1 hfree' (ready_mono hr (Ne.symm hji)) h3.1 (hSS j oj w' (hl0 j hjun) hoj hnot h3.2.1) ?_⟩) hput
      rw [Array.setIfInBounds_comm _ _ hji]
      exact h3.2.2

/-- A load is taken first: whoever may come ahead of it keeps S. -/
theorem wpAnyU_take {i : Nat} {oi : Oper} {v : Value} {fuel : Nat} {listed : Array Bool} {a : Act} {w : World} (hi : ops[i]? = some oi)
    (hs : Region.noSelect ops = true) (hf : Region.free md ops listed i = true) (hU : behind md ops listed U i = true) (hr : (Region.ready md ops listed).contains i = true)
    (hQ : ∀ c a w, Q (.panic c) (a.put oi.dst v) w → Q (.panic c) a w) (hy : YieldsIf P ops S oi v a) (hS : S w)
    (h : wpAnyU P md ops Q S U fuel (listed.setIfInBounds i true) (a.put oi.dst v) w) : wpAnyU P md ops Q S U (fuel + 1) listed a w :=
  wpAnyU_first (S' := S) (l0 := listed) hi (fun _ h _ => h) (fun j oj w hl hj hnot hk => by
    cases hc : U.contains j with
    | true => exact hk hc
    | false =>
      obtain ⟨e, he, hb, heq⟩ := behind_spec hU hl hj hc
      exact absurd heq (hnot e he hb)) (Region.noSelect_spec hs) hQ fuel listed a w (fun _ h => h) (Region.free_spec hi hf) (by simpa using hr) hy hS h

/-- S is not asked for any more behind what is still to come. -/
theorem wpAnyU_rest : ∀ (fuel : Nat) (listed : Array Bool) (a : Act) (w : World), (∀ j, U.contains j = true → listed.getD j true = true) → wpAny P md ops Q fuel listed a w → wpAnyU P md ops Q S U fuel listed a w
  | 0, _, _, _, _, h => h
  | fuel + 1, listed, _, _, hu, h => ⟨h.1, fun i hi => wpOp_mono (fun a' w' h' => by
      have hno : U.contains i = true → False := fun hc => by
        have := (mem_ready.1 hi).1
        rw [hu i hc] at this
        cases this
      refine ⟨fun hc => (hno hc).elim, wpAnyU_rest fuel _ a' w' (fun j hj => ?_) h'⟩
      by_cases e : i = j
      · subst e; exact (hno hj).elim
      · rw [getD_set_ne true e]; exact hu j hj) (h.2 i hi)⟩

/-- Whichever comes up. -/
theorem wpAnyU_all {rs : List Nat} {fuel : Nat} {listed : Array Bool} {a : Act} {w : World} (hr : Region.ready md ops listed = rs) (hne : rs ≠ [])
    (h : ∀ i ∈ rs, wpOp P ops Q i (fun a' w' => (U.contains i = true → S w') ∧ wpAnyU P md ops Q S U fuel (listed.setIfInBounds i true) a' w') a w) : wpAnyU P md ops Q S U (fuel + 1) listed a w :=
  ⟨fun h0 => absurd (hr ▸ h0) hne, hr ▸ h⟩

theorem wpAnyU_done {listed : Array Bool} {a : Act} {w : World} (hr : Region.ready md ops listed = []) (h : Q .normal a w) : ∀ fuel, wpAnyU P md ops Q S U fuel listed a w
  | 0 => ⟨hr, h⟩
  | _ + 1 => ⟨fun _ => h, by rw [hr]; simp⟩

/-- The one that comes up next, handed over behind a '∀ K'. -/
theorem wpOpU_step {i : Nat} {o : Oper} {K : Act → World → Prop} {a : Act} {w : World} (ho : ops[i]? = some o) (hg : o.guard = none)
    (h : ∀ K' : Act → World → Prop, (∀ a w, K a w → K' a w) → Oper.wp P o a w K' Q) : wpOp P ops Q i K a w :=
  wpOp_step ho (fun K' hK => by rw [if_pos (by simp [Region.wanted, hg])]; exact h K' hK)
theorem wpOpU_stepG {i : Nat} {o : Oper} {K : Act → World → Prop} {a : Act} {w : World} (ho : ops[i]? = some o) (hg : Region.wanted o (yielded ops a.tmps) = true)
    (h : ∀ K' : Act → World → Prop, (∀ a w, K a w → K' a w) → Oper.wp P o a w K' Q) : wpOp P ops Q i K a w :=
  wpOp_step ho (fun K' hK => by rw [if_pos hg]; exact h K' hK)
end

end Go.Proofs.Ytcbipbnomgdklaa
