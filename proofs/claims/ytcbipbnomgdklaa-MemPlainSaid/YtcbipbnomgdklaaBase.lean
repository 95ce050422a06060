/- Words used by all walks of this seat: what may have turned between two worlds (Chg), a whole block of cells (Row), a map's block as a function of keys (MapIs), and the laws at the operations that keep them. No program text in it. -/
import Derived.WalkKit
import Derived.WalkSpells
import Derived.WalkLawsBesides
import Derived.Lib.Hide
import Derived.Maps.OwnOps
import Derived.Maps.AppendAt
set_option linter.unusedSimpArgs false
set_option linter.unusedVariables false
namespace Go.Proofs.Ytcbipbnomgdklaa
open Go Go.RowKit Go.Maps

/-! ### what may have turned -/

/-- Between w and w' the blocks of S alone may have turned; blocks may have come. -/
structure Chg (S : List Nat) (w w' : World) : Prop where
  os : w'.os = w.os
  tape : w'.tape = w.tape
  output : w'.output = w.output
  size : w.heap.size ≤ w'.heap.size
  block : ∀ k, k < w.heap.size → k ∉ S → w'.heap[k]? = w.heap[k]?

theorem Chg.refl (S : List Nat) (w : World) : Chg S w w := ⟨rfl, rfl, rfl, Nat.le_refl _, fun _ _ _ => rfl⟩

theorem Chg.mono {S S' : List Nat} {a b : World} (h : Chg S a b) (hs : ∀ k, k ∈ S → k < a.heap.size → k ∈ S') : Chg S' a b :=
  ⟨h.os, h.tape, h.output, h.size, fun k hk hn => h.block k hk (fun hm => hn (hs k hm hk))⟩

/-- Two steps: what the second one may turn, the first one may turn, or it is new. -/
theorem Chg.trans {S S' : List Nat} {a b c : World} (h : Chg S a b) (k : Chg S' b c) (hs : ∀ i, i ∈ S' → i ∈ S ∨ a.heap.size ≤ i) : Chg S a c :=
  ⟨k.os.trans h.os, k.tape.trans h.tape, k.output.trans h.output, Nat.le_trans h.size k.size, fun i hi hn =>
    (k.block i (Nat.lt_of_lt_of_le hi h.size) (fun hm => (hs i hm).elim hn (fun h' => by omega))).trans (h.block i hi hn)⟩

theorem Chg.same {S : List Nat} {a b c : World} (h : Chg S a b) (k : Chg S b c) : Chg S a c := h.trans k (fun _ hi => .inl hi)
theorem Chg.quiet {S : List Nat} {a b c : World} (h : Chg S a b) (k : Chg [] b c) : Chg S a c := h.trans k (fun _ hi => by cases hi)

theorem Chg.alloc {S : List Nat} {a w : World} (h : Chg S a w) (o : Obj) : Chg S a (w.alloc o) :=
  h.quiet ⟨rfl, rfl, rfl, by simp, fun k hk _ => Below.heap_alloc _ _ _ hk⟩

theorem Chg.drew {S : List Nat} {a w : World} (h : Chg S a w) : Chg S a w.drew := ⟨h.os, h.tape, h.output, h.size, h.block⟩
theorem Chg.drewN {S : List Nat} {a w : World} (h : Chg S a w) (n : Nat) : Chg S a (w.drewN n) := ⟨h.os, h.tape, h.output, h.size, h.block⟩

theorem Chg.setCell {S : List Nat} {a w : World} (h : Chg S a w) {p : Addr} (hp : p.block ∈ S ∨ a.heap.size ≤ p.block) (u : Value) : Chg S a (w.setCell p u) :=
  h.trans (S' := [p.block]) ⟨rfl, rfl, rfl, by simp [World.setCell], fun k _ hn => Below.heap_setCell _ _ _ _ (fun e => hn (by simp [e]))⟩ (fun i hi => by simp at hi; subst hi; exact hp)

theorem Chg.grown {S : List Nat} {a w w' : World} {row : Option Nat} (h : Chg S a w) (hg : w.grownBy w' row) (hr : ∀ k, row = some k → k ∈ S ∨ a.heap.size ≤ k) : Chg S a w' :=
  h.trans (S' := row.toList) ⟨hg.os, hg.tape, hg.output, hg.size, fun k hk hn => hg.block k hk (fun e => hn (by cases row <;> simp_all))⟩ (fun i hi => by cases row with | none => simp at hi | some r => simp at hi; subst hi; exact hr _ rfl)

theorem Chg.below {S : List Nat} {a w : World} {B : Nat} (h : Chg S a w) (hB : B ≤ a.heap.size) (hS : ∀ k, k ∈ S → B ≤ k) : Below B a w :=
  ⟨h.os, h.tape, h.output, h.size, fun k hk => h.block k (by omega) (fun hm => by have := hS k hm; omega)⟩

theorem Below.chg {S : List Nat} {a b c : World} {B : Nat} (h : Below B a b) (k : Chg S b c) (hB : B ≤ b.heap.size) (hS : ∀ i, i ∈ S → B ≤ i) : Below B a c := h.trans (k.below hB hS)

theorem Chg.cell {S : List Nat} {a w : World} (h : Chg S a w) {p : Addr} {v : Value} (hc : a.cell? p = some v) (hn : p.block ∉ S) : w.cell? p = some v :=
  (World.cell?_of_block (h.block _ (World.block_lt_of_cell? a p hc) hn)).trans hc

/-- What an operation leaves of a thing's own blocks: old ones of its own, or new ones. -/
def Own (fp fp' : List Nat) (w : World) : Prop := ∀ k, k ∈ fp' → k ∈ fp ∨ w.heap.size ≤ k

theorem Own.refl (fp : List Nat) (w : World) : Own fp fp w := fun _ h => .inl h
theorem Own.trans {f g h : List Nat} {w w1 : World} (a : Own f g w) (b : Own g h w1) (hs : w.heap.size ≤ w1.heap.size) : Own f h w := fun k hk => (b k hk).elim (a k) (fun h => .inr (by omega))
theorem Own.from {f g : List Nat} {w : World} {B : Nat} (a : Own f g w) (hB : B ≤ w.heap.size) (h : ∀ k, k ∈ f → B ≤ k) : ∀ k, k ∈ g → B ≤ k := fun k hk => (a k hk).elim (h k) (fun h => by omega)
theorem Own.apart {f g h : List Nat} {w : World} (a : Own f g w) (hd : ∀ k, k ∈ f → k ∉ h) (hl : ∀ k, k ∈ h → k < w.heap.size) : ∀ k, k ∈ g → k ∉ h := fun k hk hm => (a k hk).elim (fun x => hd k x hm) (fun x => by have := hl k hm; omega)

/-! ### a whole block of cells -/

/-- Block k is these cells, of that type, none of them frozen. -/
def Row (w : World) (k : Nat) (vs : List Value) (t : TypeId) : Prop := w.heap[k]? = some (.cells vs.toArray t (0, 0))

section
variable {w w' : World} {k : Nat} {vs : List Value} {t : TypeId}
theorem Row.lt (h : Row w k vs t) : k < w.heap.size := (Array.getElem?_eq_some_iff.1 h).1
theorem Row.cell (h : Row w k vs t) {j : Nat} {v : Value} (hj : vs[j]? = some v) : w.cell? ⟨k, j, none⟩ = some v := by
  unfold Row at h
  simp [World.cell?, h, hj]
theorem Row.free (h : Row w k vs t) (j : Nat) : w.frozen? ⟨k, j, none⟩ = false := by
  unfold Row at h
  simp [World.frozen?, h]
theorem Row.new (w : World) (vs : List Value) (t : TypeId) : Row (w.alloc (.cells vs.toArray t)) w.heap.size vs t := heap_alloc_new w _
theorem Row.alloc (h : Row w k vs t) (o : Obj) : Row (w.alloc o) k vs t := (Below.heap_alloc _ _ _ h.lt).trans h
theorem Row.drew (h : Row w k vs t) : Row w.drew k vs t := h
theorem Row.chg {S : List Nat} (h : Row w k vs t) (c : Chg S w w') (hn : k ∉ S) : Row w' k vs t := (c.block k h.lt hn).trans h
theorem Row.below {B : Nat} (h : Row w k vs t) (c : Below B w w') (hn : k < B) : Row w' k vs t := (c.block k hn).trans h
theorem Row.set (h : Row w k vs t) (j : Nat) (v : Value) : Row (w.setCell ⟨k, j, none⟩ v) k (vs.set j v) t := by
  unfold Row at h ⊢
  simp [World.setCell, Array.getElem?_modify, h]
theorem Row.other (h : Row w k vs t) {a : Addr} (hne : k ≠ a.block) (v : Value) : Row (w.setCell a v) k vs t := (Below.heap_setCell _ _ _ _ hne).trans h
theorem Row.grown (h : Row w k vs t) {row : Option Nat} (hg : w.grownBy w' row) (hn : row ≠ some k) : Row w' k vs t := (hg.block k h.lt (fun e => hn e.symm)).trans h
theorem Row.cells2 {x0 x1 : Value} (h : Row w k [x0, x1] t) : w.cell? ⟨k, 0, none⟩ = some x0 ∧ w.cell? ⟨k, 1, none⟩ = some x1 := ⟨h.cell rfl, h.cell rfl⟩
theorem Row.cells3 {x0 x1 x2 : Value} (h : Row w k [x0, x1, x2] t) : w.cell? ⟨k, 0, none⟩ = some x0 ∧ w.cell? ⟨k, 1, none⟩ = some x1 ∧ w.cell? ⟨k, 2, none⟩ = some x2 := ⟨h.cell rfl, h.cell rfl, h.cell rfl⟩
theorem Row.cells4 {x0 x1 x2 x3 : Value} (h : Row w k [x0, x1, x2, x3] t) : w.cell? ⟨k, 0, none⟩ = some x0 ∧ w.cell? ⟨k, 1, none⟩ = some x1 ∧ w.cell? ⟨k, 2, none⟩ = some x2 ∧ w.cell? ⟨k, 3, none⟩ = some x3 := ⟨h.cell rfl, h.cell rfl, h.cell rfl, h.cell rfl⟩
theorem Row.cells5 {x0 x1 x2 x3 x4 : Value} (h : Row w k [x0, x1, x2, x3, x4] t) : w.cell? ⟨k, 0, none⟩ = some x0 ∧ w.cell? ⟨k, 1, none⟩ = some x1 ∧ w.cell? ⟨k, 2, none⟩ = some x2 ∧ w.cell? ⟨k, 3, none⟩ = some x3 ∧ w.cell? ⟨k, 4, none⟩ = some x4 := ⟨h.cell rfl, h.cell rfl, h.cell rfl, h.cell rfl, h.cell rfl⟩
theorem Row.cells6 {x0 x1 x2 x3 x4 x5 : Value} (h : Row w k [x0, x1, x2, x3, x4, x5] t) : w.cell? ⟨k, 0, none⟩ = some x0 ∧ w.cell? ⟨k, 1, none⟩ = some x1 ∧ w.cell? ⟨k, 2, none⟩ = some x2 ∧ w.cell? ⟨k, 3, none⟩ = some x3 ∧ w.cell? ⟨k, 4, none⟩ = some x4 ∧ w.cell? ⟨k, 5, none⟩ = some x5 := ⟨h.cell rfl, h.cell rfl, h.cell rfl, h.cell rfl, h.cell rfl, h.cell rfl⟩
theorem Row.cells9 {x0 x1 x2 x3 x4 x5 x6 x7 x8 : Value} (h : Row w k [x0, x1, x2, x3, x4, x5, x6, x7, x8] t) : w.cell? ⟨k, 0, none⟩ = some x0 ∧ w.cell? ⟨k, 1, none⟩ = some x1 ∧ w.cell? ⟨k, 2, none⟩ = some x2 ∧ w.cell? ⟨k, 3, none⟩ = some x3 ∧ w.cell? ⟨k, 4, none⟩ = some x4 ∧ w.cell? ⟨k, 5, none⟩ = some x5 ∧ w.cell? ⟨k, 6, none⟩ = some x6 ∧ w.cell? ⟨k, 7, none⟩ = some x7 ∧ w.cell? ⟨k, 8, none⟩ = some x8 := ⟨h.cell rfl, h.cell rfl, h.cell rfl, h.cell rfl, h.cell rfl, h.cell rfl, h.cell rfl, h.cell rfl, h.cell rfl⟩
theorem Row.ne_type {k' : Nat} {vs' : List Value} {t' : TypeId} (h : Row w k vs t) (h' : Row w k' vs' t') (ht : t ≠ t') : k ≠ k' := fun e => by
  subst e
  unfold Row at h h'
  rw [h] at h'
  simp at h'
  exact ht h'.2
end

/-! ### a map's block, as a function of its keys -/

/-- Block b is a map of at most n entries; f tells the element at each key. -/
def MapIs (P : Program) (k : TypeId) (w : World) (b n : Nat) (f : Value → Option Value) : Prop :=
  ∃ es clock, w.heap[b]? = some (.map es clock) ∧ es.size ≤ n ∧ (∀ e ∈ es.toList, ∃ l, keyOf P k e.key = some l) ∧ es.toList.Pairwise (fun x y => x.key ≠ y.key) ∧
    (∀ e ∈ es.toList, f e.key = some e.val) ∧ ∀ x v, f x = some v → ∃ e ∈ es.toList, e.key = x ∧ e.val = v

section
variable {P : Program} {k : TypeId} {w w' : World} {b n : Nat} {f : Value → Option Value}

theorem MapIs.lt (h : MapIs P k w b n f) : b < w.heap.size := by
  obtain ⟨es, clock, hb, _⟩ := h
  exact (Array.getElem?_eq_some_iff.1 hb).1

theorem MapIs.made (P : Program) (k : TypeId) (w : World) : MapIs P k (w.alloc (.map #[] 0)) w.heap.size 0 (fun _ => none) :=
  ⟨#[], 0, heap_alloc_new w _, by simp, by simp, by simp, by simp, by simp⟩

theorem MapIs.kept (h : MapIs P k w b n f) (hb : w'.heap[b]? = w.heap[b]?) : MapIs P k w' b n f := by
  obtain ⟨es, clock, h1, h2⟩ := h
  exact ⟨es, clock, hb.trans h1, h2⟩
theorem MapIs.chg {S : List Nat} (h : MapIs P k w b n f) (c : Chg S w w') (hn : b ∉ S) : MapIs P k w' b n f := h.kept (c.block b h.lt hn)
theorem MapIs.alloc (h : MapIs P k w b n f) (o : Obj) : MapIs P k (w.alloc o) b n f := h.kept (Below.heap_alloc _ _ _ h.lt)
theorem MapIs.drew (h : MapIs P k w b n f) : MapIs P k w.drew b n f := h
theorem MapIs.setCell (h : MapIs P k w b n f) {a : Addr} (hn : b ≠ a.block) (v : Value) : MapIs P k (w.setCell a v) b n f := h.kept (Below.heap_setCell _ _ _ _ hn)
theorem MapIs.grown (h : MapIs P k w b n f) {row : Option Nat} (hg : w.grownBy w' row) (hn : row ≠ some b) : MapIs P k w' b n f := h.kept (hg.block b h.lt (fun e => hn e.symm))
theorem MapIs.not_row {vs : List Value} {t : TypeId} {j : Nat} (h : MapIs P k w b n f) (r : Row w j vs t) : j ≠ b := fun e => by
  obtain ⟨es, clock, h1, _⟩ := h
  subst e
  unfold Row at r
  rw [r] at h1
  cases h1
theorem MapIs.mono (h : MapIs P k w b n f) {n' : Nat} (hn : n ≤ n') : MapIs P k w b n' f := by
  obtain ⟨es, clock, h1, h2, h3⟩ := h
  exact ⟨es, clock, h1, Nat.le_trans h2 hn, h3⟩

theorem MapIs.key (h : MapIs P k w b n f) {x v : Value} (hx : f x = some v) : ∃ l, keyOf P k x = some l := by
  obtain ⟨es, clock, _, _, h3, _, _, h6⟩ := h
  obtain ⟨e, he, rfl, _⟩ := h6 x v hx
  exact h3 e he

/-- 'm[k]'. -/
theorem MapIs.lookup {t e : TypeId} {z : Value} (h : MapIs P k w b n f) (K : Keyed P k) (ht : P.underlying t = some (.map k e)) (hz : (zeroValue e).run P w = .ok z w) {key : Value} {kl : Lit} (hkey : keyOf P k key = some kl) :
    (Instr.lookup t (.map (some b)) key false).run P w = .ok ((f key).getD z) w := by
  obtain ⟨es, clock, hb, _, h3, _, h5, h6⟩ := h
  rcases K.find w hkey es.toList h3 with ⟨h1, h2⟩ | ⟨j, e0, h1, h2, h3'⟩
  · have hn : f key = none := by
      cases hf : f key with
      | none => rfl
      | some v =>
        obtain ⟨e, he, hk, _⟩ := h6 key v hf
        exact absurd hk (h2 e he)
    simp [Instr.lookup, run_underlying ht, MapKept.run_getObj_map hb, K.check w _ hkey, h1, hz, hn, Result.andThen]
  · have hs : f key = some e0.val := by rw [← h3']; exact h5 e0 (List.mem_of_getElem? h2)
    simp [Instr.lookup, run_underlying ht, MapKept.run_getObj_map hb, K.check w _ hkey, h1, hs, Result.andThen]

/-- 'm[k] = v'. -/
theorem MapIs.update {t e : TypeId} (h : MapIs P k w b n f) (K : Keyed P k) (ht : P.underlying t = some (.map k e)) {key val : Value} {kl : Lit} (hkey : keyOf P k key = some kl) :
    ∃ w', (Instr.mapUpdate t (.map (some b)) key val).run P w = .ok () w' ∧ MapIs P k w' b (n + 1) (fun x => open Classical in if x = key then some val else f x) ∧ Chg [b] w w' := by
  classical
  obtain ⟨es, clock, hb, hn, h3, h4, h5, h6⟩ := h
  have hch : ∀ o, Chg [b] w (ChangeMaps.setBlock w b o) := fun o => ⟨rfl, rfl, rfl, by simp [ChangeMaps.setBlock], fun i _ hi => ChangeMaps.heap_setBlock_other hb _ (fun e => hi (by simp [e]))⟩
  rcases K.find w hkey es.toList h3 with ⟨h1, h2⟩ | ⟨j, e0, h1, h2, h3'⟩
  · refine ⟨ChangeMaps.setBlock w b (.map (es.push ⟨key, val, clock⟩) (clock + 1)), ?_, ⟨_, _, ChangeMaps.heap_setBlock_same hb _, by simp; omega, ?_, ?_, ?_, ?_⟩, hch _⟩
    · simp [Instr.mapUpdate, run_underlying ht, MapKept.run_getObj_map hb, K.check w false hkey, h1, MapKept.run_setObj_map _ hb, Result.andThen, ChangeMaps.setBlock]
    · intro x hx
      simp only [Array.toList_push, List.mem_append, List.mem_singleton] at hx
      rcases hx with hx | rfl
      · exact h3 x hx
      · exact ⟨kl, hkey⟩
    · simp only [Array.toList_push]
      refine List.pairwise_append.2 ⟨h4, by simp, ?_⟩
      intro x hx y hy
      simp at hy
      subst hy
      exact h2 x hx
    · intro x hx
      simp only [Array.toList_push, List.mem_append, List.mem_singleton] at hx
      rcases hx with hx | rfl
      · exact (if_neg (h2 x hx)).trans (h5 x hx)
      · exact if_pos rfl
    · intro x v hx
      by_cases e : x = key
      · subst e
        have hx := (if_pos rfl).symm.trans hx
        exact ⟨⟨x, val, clock⟩, by simp, rfl, by simpa using hx⟩
      · have hx := (if_neg e).symm.trans hx
        obtain ⟨y, hy, r⟩ := h6 x v hx
        exact ⟨y, by simp [hy], r⟩
  · have hj : es[j]? = some e0 := by simpa using h2
    have hjl : j < es.toList.length := (List.getElem?_eq_some_iff.1 h2).1
    have hlist : (es.modify j (fun e' => { e' with key := key, val := val })).toList = es.toList.set j { e0 with key := key, val := val } := by rw [Array.toList_modify, ChangeMaps.modify_eq_set _ _ _ _ h2]
    have hel : es.toList[j] = e0 := (List.getElem?_eq_some_iff.1 h2).2
    have hpw := List.pairwise_iff_getElem.1 h4
    refine ⟨ChangeMaps.setBlock w b (.map (es.modify j (fun e' => { e' with key := key, val := val })) clock), ?_, ⟨_, _, ChangeMaps.heap_setBlock_same hb _, by simp; omega, ?_, ?_, ?_, ?_⟩, hch _⟩
    · simp [Instr.mapUpdate, run_underlying ht, MapKept.run_getObj_map hb, K.check w false hkey, h1, hj, h3', K.stays w hkey, MapKept.run_setObj_map _ hb, Result.andThen, ChangeMaps.setBlock]
    · intro x hx
      rw [hlist] at hx
      rcases List.mem_or_eq_of_mem_set hx with hx | rfl
      · exact h3 x hx
      · exact ⟨kl, hkey⟩
    · rw [hlist, List.pairwise_iff_getElem]
      intro i i' hi hi' hlt
      simp only [List.length_set] at hi hi'
      rw [List.getElem_set, List.getElem_set]
      split
      · rename_i e1
        subst e1
        rw [if_neg (by omega)]
        have := hpw j i' hjl hi' hlt
        rw [hel, h3'] at this
        exact this
      · split
        · rename_i e1 e2
          subst e2
          have := hpw i j hi hjl hlt
          rw [hel, h3'] at this
          exact this
        · exact hpw i i' hi hi' hlt
    · intro x hx
      rw [hlist] at hx
      obtain ⟨i, hi, ex⟩ := List.getElem_of_mem hx
      rw [List.getElem_set] at ex
      split at ex
      · subst ex; exact if_pos rfl
      · rename_i hne
        have hi' : i < es.toList.length := by simpa using hi
        have hm : x ∈ es.toList := by rw [← ex]; exact List.getElem_mem hi'
        have hk : x.key ≠ key := by
          rcases Nat.lt_or_gt_of_ne hne with hlt | hlt
          · have := hpw j i hjl hi' hlt
            rw [hel, h3', ex] at this
            exact fun e => this e.symm
          · have := hpw i j hi' hjl hlt
            rw [hel, h3', ex] at this
            exact this
        exact (if_neg hk).trans (h5 x hm)
    · intro x v hx
      by_cases e : x = key
      · subst e
        have hx := (if_pos rfl).symm.trans hx
        exact ⟨{ e0 with key := x, val := val }, by rw [hlist]; exact List.mem_iff_getElem.2 ⟨j, by simpa using hjl, by simp⟩, rfl, by simpa using hx⟩
      · have hx := (if_neg e).symm.trans hx
        obtain ⟨y, hy, hyk, hyv⟩ := h6 x v hx
        obtain ⟨i, hi, ey⟩ := List.getElem_of_mem hy
        have hne : j ≠ i := fun e' => by
          subst e'
          rw [hel] at ey
          subst ey
          exact e (hyk.symm.trans h3')
        exact ⟨y, by rw [hlist]; exact List.mem_iff_getElem.2 ⟨i, by simpa using hi, by rw [List.getElem_set, if_neg hne]; exact ey⟩, hyk, hyv⟩
end

/-- 'm[k]' AT THE OPERATION. -/
theorem wpList_lookup_is {P : Program} (w : World) {ops : Array Oper} {rest : List Oper} {o : Oper} {a : Act} {Q : Exit → Act → World → Prop}
    (hg : o.guard = none) (m x : Operand) (t : TypeId) (hop : o.op = Op.lookup t m x false)
    (k e : TypeId) (z : Value) (K : Keyed P k) (ht : P.underlying t = some (.map k e)) (hz : ∀ W, (zeroValue e).run P W = .ok z W) (b n : Nat) (f : Value → Option Value)
    (hm : a.eval m = .map (some b)) (hown : MapIs P k w b n f) (key : Value) (kl : Lit) (hx : a.eval x = key) (hkey : keyOf P k key = some kl)
    (v : Value) (hv : (f key).getD z = v)
    (hK : wpList P ops Q rest (a.put o.dst v) w) :
    wpList P ops Q (o :: rest) a w := by
  refine wpList_plain hg fun K' hK' => ?_
  have hrun := hown.lookup K ht (hz w) hkey
  rw [hv] at hrun
  unfold Oper.wp
  simp [execOp, hop, hm, hx, hrun, Result.andThen]
  exact hK' _ _ hK

/-- 'm[k] = v' AT THE OPERATION. -/
theorem wpList_mapUpdate_is {P : Program} (w : World) {ops : Array Oper} {rest : List Oper} {o : Oper} {a : Act} {Q : Exit → Act → World → Prop}
    (hg : o.guard = none) (m x v : Operand) (t : TypeId) (hop : o.op = Op.mapUpdate t m x v)
    (k e : TypeId) (K : Keyed P k) (ht : P.underlying t = some (.map k e)) (b n : Nat) (f : Value → Option Value)
    (hm : a.eval m = .map (some b)) (hown : MapIs P k w b n f) (key val : Value) (kl : Lit) (hx : a.eval x = key) (hv : a.eval v = val) (hkey : keyOf P k key = some kl)
    (hK : ∀ w', MapIs P k w' b (n + 1) (fun x => open Classical in if x = key then some val else f x) → Chg [b] w w' → wpList P ops Q rest (a.put o.dst undef) w') :
    wpList P ops Q (o :: rest) a w := by
  refine wpList_plain hg fun K' hK' => ?_
  obtain ⟨w', hrun, r1, r2⟩ := hown.update (val := val) K ht hkey
  unfold Oper.wp
  simp [execOp, hop, hm, hx, hv, hrun, Result.andThen]
  exact hK' _ _ (hK w' r1 r2)

/-! ### a slice that is appended to -/
theorem ownsRow_chg {w w' : World} {S : List Nat} {base : Nat} {e : TypeId} {size : Nat} {v : Value} {n : Nat} {xs : List Value} (h : w.ownsRow base e size v n xs) (c : Chg S w w') (hn : ∀ k, v.ownBlock = some k → k ∉ S) : w'.ownsRow base e size v n xs := by
  refine ⟨h.1, ?_⟩
  rcases h.2 with hn' | ⟨g, cap, cur, rfl, hb, hgg, rest⟩
  · exact .inl hn'
  · exact .inr ⟨g, cap, cur, rfl, hb, (c.block g (Array.getElem?_eq_some_iff.1 hgg).1 (hn g rfl)).trans hgg, rest⟩

/-- An owned row's cells. -/
theorem ownsRow_cell {w : World} {base : Nat} {e : TypeId} {size : Nat} {v : Value} {n : Nat} {xs : List Value} (h : w.ownsRow base e size v n xs) {g : Nat} (hg : v.ownBlock = some g) {j : Nat} {u : Value} (hu : xs[j]? = some u) : w.cell? ⟨g, j, none⟩ = some u := by
  have := h.cells hg j u hu
  have e : (⟨g, 0, none⟩ : Addr).add j = ⟨g, j, none⟩ := by unfold Addr.add; split <;> simp_all
  rwa [e] at this

/-- The value of an owned row: nil, or a slice from the head of its block. -/
theorem ownsRow_form {w : World} {base : Nat} {e : TypeId} {size : Nat} {v : Value} {n : Nat} {xs : List Value} (h : w.ownsRow base e size v n xs) : (v = .slice none 0 0 ∧ n = 0) ∨ ∃ g cap, v = .slice (some ⟨g, 0, none⟩) n cap ∧ g < w.heap.size ∧ n ≤ cap ∧ cap ≤ maxLen := by
  rcases h.2 with h1 | ⟨g, cap, cur, hv, _, hgg, hc, hm, _⟩
  · exact .inl h1
  · exact .inr ⟨g, cap, hv, (Array.getElem?_eq_some_iff.1 hgg).1, hc, hm⟩

theorem ownsRow_not_row {w : World} {base : Nat} {e t : TypeId} {size : Nat} {v : Value} {n k : Nat} {xs vs : List Value} (h : w.ownsRow base e size v n xs) (r : Row w k vs t) (ht : t ≠ e) : v.ownBlock ≠ some k := by
  intro hk
  rcases h.2 with ⟨rfl, _⟩ | ⟨g, cap, cur, rfl, _, hgg, _⟩
  · simp [Value.ownBlock] at hk
  · simp [Value.ownBlock] at hk
    subst hk
    unfold Row at r
    rw [r] at hgg
    simp at hgg
    exact ht hgg.2

theorem ownsRow_not_map {P : Program} {w : World} {base : Nat} {e q : TypeId} {size : Nat} {v : Value} {n b nn : Nat} {f : Value → Option Value} {xs : List Value} (h : w.ownsRow base e size v n xs) (m : MapIs P q w b nn f) : v.ownBlock ≠ some b := by
  intro hk
  obtain ⟨es, clock, h1, _⟩ := m
  rcases h.2 with ⟨rfl, _⟩ | ⟨g, cap, cur, rfl, _, hgg, _⟩
  · simp [Value.ownBlock] at hk
  · simp [Value.ownBlock] at hk
    subst hk
    rw [h1] at hgg
    cases hgg

end Go.Proofs.Ytcbipbnomgdklaa
