/- A load is taken first in a region that draws its order, though some later operations wait for it only through others (D): they come behind it all the same. -/
import Derived.Test.YtjipjhmcpjffcacRegion
set_option linter.unusedSimpArgs false
set_option linter.unusedVariables false
set_option maxRecDepth 20000
namespace Go.Proofs.Ytjipjhmcpjffcac
open Go

section
variable {P : Program} {ops : Array Oper} {Q : Exit → Act → World → Prop} {md : Region.Mode} {S : World → Prop} {U D : List Nat}
/-- Each of D waits for i, or for one of D. -/
def waitsD (md : Region.Mode) (ops : Array Oper) (i : Nat) (D : List Nat) : Bool := D.all fun d => match ops[d]? with
  | some o => o.after.any fun e => Region.binds md e && (e.on == i || D.contains e.on)
  | none => false
theorem waitsD_spec {i d : Nat} (h : waitsD md ops i D = true) (hd : d ∈ D) {o : Oper} (ho : ops[d]? = some o) : ∃ e ∈ o.after, Region.binds md e = true ∧ (e.on = i ∨ e.on ∈ D) := by
  unfold waitsD at h
  rw [List.all_eq_true] at h
  have := h d hd
  rw [ho] at this
  obtain ⟨e, he, hb⟩ := Array.any_eq_true'.1 this
  simp only [Bool.and_eq_true, Bool.or_eq_true, beq_iff_eq, List.contains_iff_mem] at hb
  exact ⟨e, he, hb.1, hb.2⟩
def freeD (md : Region.Mode) (ops : Array Oper) (listed : Array Bool) (i : Nat) (D : List Nat) : Bool :=
  match ops[i]? with
  | none => false
  | some oi => (List.range ops.size).all fun j => j == i || listed.getD j true || D.contains j || match ops[j]? with
      | some oj => oj.after.any (fun e => Region.binds md e && e.on == i) || oi.apart ops oj
      | none => true
theorem freeD_spec {i : Nat} {oi : Oper} {listed : Array Bool} (hi : ops[i]? = some oi) (h : freeD md ops listed i D = true) (j : Nat) (oj : Oper)
    (hj : ops[j]? = some oj) (hne : j ≠ i) (hD : j ∉ D) (hun : listed.getD j true = false) (hno : ∀ e ∈ oj.after, Region.binds md e = true → e.on ≠ i) : oi.apart ops oj = true := by
  simp only [freeD, hi, List.all_eq_true, List.mem_range] at h
  have h1 := h j (Array.getElem?_eq_some_iff.1 hj).1
  have hc : D.contains j = false := by simpa using hD
  simp only [hj, Bool.or_eq_true, beq_iff_eq, hne, false_or, hun, hc, Bool.false_eq_true] at h1
  rcases h1 with h1 | h1
  · obtain ⟨e, he, hb⟩ := Array.any_eq_true'.1 h1
    simp only [Bool.and_eq_true, beq_iff_eq] at hb
    exact absurd hb.2 (hno e he hb.1)
  · exact h1
def behindD (md : Region.Mode) (ops : Array Oper) (listed : Array Bool) (U : List Nat) (i : Nat) (D : List Nat) : Bool :=
  (List.range ops.size).all fun j => listed.getD j true || U.contains j || D.contains j || match ops[j]? with
    | some o => o.after.any fun e => Region.binds md e && e.on == i
    | none => true
theorem behindD_spec {i j : Nat} {o : Oper} {listed : Array Bool} (h : behindD md ops listed U i D = true) (hl : listed.getD j true = false) (hj : ops[j]? = some o) (hn : U.contains j = false) (hd : j ∉ D) : ∃ e ∈ o.after, Region.binds md e = true ∧ e.on = i := by
  unfold behindD at h
  rw [List.all_eq_true] at h
  have := h j (List.mem_range.2 (Array.getElem?_eq_some_iff.1 hj).1)
  have hc : D.contains j = false := by simpa using hd
  rw [hn, hj, hl, hc] at this
  simp only [Bool.false_or] at this
  obtain ⟨e, he, hb⟩ := Array.any_eq_true'.1 this
  simp only [Bool.and_eq_true, beq_iff_eq] at hb
  exact ⟨e, he, hb⟩
theorem listed_not {listed : Array Bool} {k : Nat} (h1 : listed.getD k true = false) (h2 : listed.getD k false = true) : False := by
  rcases Nat.lt_or_ge k listed.size with h' | h'
  · simp [h'] at h1 h2
    rw [h1] at h2
    cases h2
  · simp [Array.getElem?_eq_none h'] at h1
theorem wpAnyU_firstD {i : Nat} {oi : Oper} {v : Value} {S' : World → Prop} {l0 : Array Bool} (hi : ops[i]? = some oi) (hback : ∀ w, S' w → U.contains i = true → S w) (hW : waitsD md ops i D = true)
    (hSS : ∀ (j : Nat) (oj : Oper) (w : World), l0.getD j true = false → ops[j]? = some oj → j ∉ D → (∀ e ∈ oj.after, Region.binds md e = true → e.on ≠ i) → (U.contains j = true → S w) → S' w) (hsel : ∀ (j : Nat) (o : Oper) cs b, ops[j]? = some o → o.op ≠ .select cs b)
    (hQ : ∀ c a w, Q (.panic c) (a.put oi.dst v) w → Q (.panic c) a w) :
    ∀ (fuel : Nat) (listed : Array Bool) (a : Act) (w : World), (∀ j, listed.getD j true = false → l0.getD j true = false) → (∀ d ∈ D, listed.getD d true = false) →
      (∀ j oj, ops[j]? = some oj → j ≠ i → j ∉ D → listed.getD j true = false → (∀ e ∈ oj.after, Region.binds md e = true → e.on ≠ i) → oi.apart ops oj = true) →
      i ∈ Region.ready md ops listed → YieldsIf P ops S' oi v a → S' w →
      wpAnyU P md ops Q S U fuel (listed.setIfInBounds i true) (a.put oi.dst v) w → wpAnyU P md ops Q S U (fuel + 1) listed a w := by
  intro fuel
  induction fuel with
  | zero =>
    intro listed a w _ _ _ hr hy hS H
    refine ⟨fun h => (by rw [h] at hr; cases hr), fun j hj => ?_⟩
    by_cases hji : j = i
    · subst hji
      exact hy.wpOp hi hS ⟨hback _ hS, H⟩
    · have hm := ready_mono hj hji
      rw [H.1] at hm
      cases hm
  | succ fuel ih =>
    intro listed a w hl0 hDl hfree hr hy hS H
    refine ⟨fun h => (by rw [h] at hr; cases hr), fun j hj => ?_⟩
    by_cases hji : j = i
    · subst hji
      exact hy.wpOp hi hS ⟨hback _ hS, H⟩
    · have hstep := H.2 j (ready_mono hj hji)
      obtain ⟨hjun, oj, hoj, hall⟩ := mem_ready.1 hj
      have hiun := (mem_ready.1 hr).1
      have hnot : ∀ e ∈ oj.after, Region.binds md e = true → e.on ≠ i := fun e he hb heq => by
        have h1 := hall e he hb
        rw [heq] at h1
        exact listed_not hiun h1
      have hjD : j ∉ D := fun hd => by
        obtain ⟨e, he, hb, h⟩ := waitsD_spec hW hd hoj
        have h1 := hall e he hb
        rcases h with h | h
        · rw [h] at h1
          exact listed_not hiun h1
        · exact listed_not (hDl _ h) h1
      have hl1 : ∀ k, (listed.setIfInBounds j true).getD k true = false → l0.getD k true = false := fun k hk => by
        by_cases e : j = k
        · subst e; exact hl0 j hjun
        · rw [getD_set_ne true e] at hk; exact hl0 k hk
      have hDl1 : ∀ d ∈ D, (listed.setIfInBounds j true).getD d true = false := fun d hd => by
        have e : j ≠ d := fun e => hjD (e ▸ hd)
        rw [getD_set_ne true e]; exact hDl d hd
      have hput := wpOp_putIf hoj (hfree j oj hoj hji hjD hjun hnot) (fun cs b => hsel i oi cs b hi) (fun cs b => hsel j oj cs b hoj) hQ hy hstep
      have hfree' : ∀ k ok, ops[k]? = some ok → k ≠ i → k ∉ D → (listed.setIfInBounds j true).getD k true = false → (∀ e ∈ ok.after, Region.binds md e = true → e.on ≠ i) → oi.apart ops ok = true := fun k ok hk hki hkD hun hno => by
        refine hfree k ok hk hki hkD ?_ hno
        by_cases hjk : j = k
        · subst hjk; exact hjun
        · rw [getD_set_ne true hjk] at hun; exact hun
      refine wpOp_mono (fun a' w' h3 => ⟨h3.2.1, ih (listed.setIfInBounds j true) a' w' hl1 hDl1 hfree' (ready_mono hr (Ne.symm hji)) h3.1 (hSS j oj w' (hl0 j hjun) hoj hjD hnot h3.2.1) ?_⟩) hput
      rw [Array.setIfInBounds_comm _ _ hji]
      exact h3.2.2
/-- A load is taken first: whoever may come ahead of it keeps S; D comes behind it. -/
theorem wpAnyU_takeD (D : List Nat) {i : Nat} {oi : Oper} {v : Value} {fuel : Nat} {listed : Array Bool} {a : Act} {w : World} (hi : ops[i]? = some oi)
    (hs : Region.noSelect ops = true) (hW : waitsD md ops i D = true) (hDl : (D.all fun d => listed.getD d true == false) = true) (hf : freeD md ops listed i D = true) (hU : behindD md ops listed U i D = true) (hr : (Region.ready md ops listed).contains i = true)
    (hQ : ∀ c a w, Q (.panic c) (a.put oi.dst v) w → Q (.panic c) a w) (hy : YieldsIf P ops S oi v a) (hS : S w)
    (h : wpAnyU P md ops Q S U fuel (listed.setIfInBounds i true) (a.put oi.dst v) w) : wpAnyU P md ops Q S U (fuel + 1) listed a w :=
  wpAnyU_firstD (D := D) (S' := S) (l0 := listed) hi (fun _ h _ => h) hW (fun j oj w hl hj hd hnot hk => by
    cases hc : U.contains j with
    | true => exact hk hc
    | false =>
      obtain ⟨e, he, hb, heq⟩ := behindD_spec hU hl hj hc hd
      exact absurd heq (hnot e he hb)) (Region.noSelect_spec hs) hQ fuel listed a w (fun _ h => h) (fun d hd => by rw [List.all_eq_true] at hDl; simpa using hDl d hd) (freeD_spec hi hf) (by simpa using hr) hy hS h
end
end Go.Proofs.Ytjipjhmcpjffcac
