/- Things that lie in memory side by side: a thing (HA) says what it is by its own blocks alone; a Scope holds a list of things, and a function that is done to the first ones of them leaves the others as they were. -/
import Derived.Test.YtcbipbnomgdklaaBase
set_option linter.unusedSimpArgs false
set_option linter.unusedVariables false
namespace Go.Proofs.Ytcbipbnomgdklaa
open Go Go.RowKit Go.Maps

/-- A thing in memory: what its own blocks hold. -/
structure HA where
  holds : World → List Nat → Prop
  lt : ∀ {w : World} {fp : List Nat}, holds w fp → ∀ k, k ∈ fp → k < w.heap.size
  chg : ∀ {w w' : World} {S fp : List Nat}, holds w fp → Chg S w w' → (∀ k, k ∈ fp → k ∉ S) → holds w' fp

/-- What a function leaves: the thing is A now, in blocks of its own or new ones; nothing else has turned. -/
def After (A : HA) (w : World) (fp : List Nat) (w' : World) : Prop := ∃ fp', A.holds w' fp' ∧ Chg fp w w' ∧ Own fp fp' w

def Apart (f g : List Nat) : Prop := ∀ k, k ∈ f → k ∉ g

/-- Two things side by side. -/
def star (A B : HA) : HA where
  holds w fp := ∃ f g, A.holds w f ∧ B.holds w g ∧ Apart f g ∧ fp = f ++ g
  lt := by
    rintro w fp ⟨f, g, ha, hb, _, rfl⟩ k hk
    rcases List.mem_append.1 hk with h | h
    · exact A.lt ha k h
    · exact B.lt hb k h
  chg := by
    rintro w w' S fp ⟨f, g, ha, hb, hd, rfl⟩ c hn
    exact ⟨f, g, A.chg ha c (fun k hk => hn k (by simp [hk])), B.chg hb c (fun k hk => hn k (by simp [hk])), hd, rfl⟩
def emp : HA where
  holds _ fp := fp = []
  lt := by rintro w fp rfl k hk; cases hk
  chg := by rintro w w' S fp rfl _ _; rfl
def stars : List HA → HA
  | [] => emp
  | A :: As => star A (stars As)
/-- A block of cells. -/
def box (k : Nat) (vs : List Value) (t : TypeId) : HA where
  holds w fp := Row w k vs t ∧ fp = [k]
  lt := by rintro w fp ⟨h, rfl⟩ k hk; simp at hk; subst hk; exact h.lt
  chg := by rintro w w' S fp ⟨h, rfl⟩ c hn; exact ⟨h.chg c (hn _ (by simp)), rfl⟩
/-- A slice that is nil, or owns the row of a whole block. -/
def ownA (v : Value) (t : TypeId) (size n : Nat) (xs : List Value) : HA where
  holds w fp := w.ownsRow 0 t size v n xs ∧ fp = v.ownBlock.toList
  lt := by rintro w fp ⟨h, rfl⟩ k hk; exact (h.lt k (by simpa using hk)).2
  chg := by rintro w w' S fp ⟨h, rfl⟩ c hn; exact ⟨ownsRow_chg h c (fun k hk => hn k (by simp [hk])), rfl⟩
/-- A plain fact on numbers, as a thing without blocks. -/
def fact (P : Prop) : HA where
  holds _ fp := P ∧ fp = []
  lt := by rintro w fp ⟨_, rfl⟩ k hk; cases hk
  chg := by rintro w w' S fp h _ _; exact h

section
variable {w w' w0 w1 : World} {S fp : List Nat} {A A' B : HA} {As As' Bs : List HA}

theorem star_after (h : (star A B).holds w fp) : ∃ f g, A.holds w f ∧ B.holds w g ∧ (∀ k, k ∈ fp ↔ k ∈ f ∨ k ∈ g) ∧ ∀ (A' : HA) w' f', A'.holds w' f' → Chg f w w' → Own f f' w → ∃ fp', (star A' B).holds w' fp' ∧ Own fp fp' w := by
  obtain ⟨f, g, ha, hb, hd, rfl⟩ := h
  refine ⟨f, g, ha, hb, fun k => by simp, fun A' w' f' h' c o => ⟨f' ++ g, ⟨f', g, h', B.chg hb c (fun k hk hm => hd k hm hk), ?_, rfl⟩, ?_⟩⟩
  · exact o.apart hd (B.lt hb)
  · intro k hk
    rcases List.mem_append.1 hk with h | h
    · exact (o k h).imp (fun x => by simp [x]) id
    · exact .inl (by simp [h])

theorem stars_append (h : (stars (As ++ Bs)).holds w fp) : ∃ f g, (stars As).holds w f ∧ (stars Bs).holds w g ∧ Apart f g ∧ (∀ k, k ∈ fp ↔ k ∈ f ∨ k ∈ g) := by
  induction As generalizing fp with
  | nil => exact ⟨[], fp, rfl, h, (fun k hk => by cases hk), by simp⟩
  | cons A As ih =>
    obtain ⟨f, g, ha, hb, hd, rfl⟩ := h
    obtain ⟨f1, g1, h1, h2, h3, h4⟩ := ih hb
    refine ⟨f ++ f1, g1, ⟨f, f1, ha, h1, fun k hk hm => hd k hk ((h4 k).2 (.inl hm)), rfl⟩, h2, fun k hk hm => ?_, fun k => by simp [h4, or_assoc]⟩
    rcases List.mem_append.1 hk with h | h
    · exact hd k h ((h4 k).2 (.inr hm))
    · exact h3 k h hm

theorem stars_join {f g : List Nat} (h1 : (stars As).holds w f) (h2 : (stars Bs).holds w g) (hd : Apart f g) : ∃ fp, (stars (As ++ Bs)).holds w fp ∧ ∀ k, k ∈ fp ↔ k ∈ f ∨ k ∈ g := by
  induction As generalizing f with
  | nil => cases (show f = [] from h1); exact ⟨g, h2, by simp⟩
  | cons A As ih =>
    obtain ⟨f0, f1, ha, hb, hd', rfl⟩ := h1
    obtain ⟨fp, h3, h4⟩ := ih hb (fun k hk => hd k (by simp [hk]))
    refine ⟨f0 ++ fp, ⟨f0, fp, ha, h3, fun k hk hm => ?_, rfl⟩, fun k => by simp [h4, or_assoc]⟩
    rcases (h4 k).1 hm with h | h
    · exact hd' k hk h
    · exact hd k (by simp [hk]) h

/-- In w, reached from w0, these things lie side by side, in blocks of S or in such as came since; of what was there, S alone has turned. -/
def Scope (S : List Nat) (w0 w : World) (As : List HA) : Prop := Chg S w0 w ∧ ∃ fp, (stars As).holds w fp ∧ ∀ k, k ∈ fp → k ∈ S ∨ w0.heap.size ≤ k

theorem Scope.start (h : (stars As).holds w fp) : Scope fp w w As := ⟨Chg.refl _ _, fp, h, fun _ h => .inl h⟩
theorem Scope.empty (w : World) : Scope [] w w [] := ⟨Chg.refl _ _, [], rfl, fun _ h => by cases h⟩
theorem Scope.after (h : Scope fp w0 w As) : After (stars As) w0 fp w := by
  obtain ⟨c, f, h1, h2⟩ := h
  exact ⟨f, h1, c, h2⟩
theorem Scope.size (h : Scope S w0 w As) : w0.heap.size ≤ w.heap.size := h.1.size
theorem Scope.below (h : Scope [] w0 w As) : Below w0.heap.size w0 w := h.1.below (Nat.le_refl _) (fun _ h => by cases h)
theorem Scope.drew (h : Scope S w0 w As) : Scope S w0 w.drew As := by
  obtain ⟨c, f, h1, h2⟩ := h
  exact ⟨c.drew, f, (stars As).chg h1 (Chg.refl [] w).drew (by simp), h2⟩
theorem Scope.quiet (h : Scope S w0 w As) (c' : Chg [] w w') : Scope S w0 w' As := by
  obtain ⟨c, f, h1, h2⟩ := h
  exact ⟨c.quiet c', f, (stars As).chg h1 c' (by simp), h2⟩
theorem Scope.alloc (h : Scope S w0 w As) (o : Obj) : Scope S w0 (w.alloc o) As := h.quiet ((Chg.refl _ _).alloc o)
theorem Scope.drop (h : Scope S w0 w (As ++ Bs)) : Scope S w0 w As := by
  obtain ⟨c, f, h1, h2⟩ := h
  obtain ⟨f1, g1, a1, _, _, a4⟩ := stars_append h1
  exact ⟨c, f1, a1, fun k hk => h2 k ((a4 k).2 (.inl hk))⟩
theorem Scope.drop_left (h : Scope S w0 w (As ++ Bs)) : Scope S w0 w Bs := by
  obtain ⟨c, f, h1, h2⟩ := h
  obtain ⟨f1, g1, _, a1, _, a4⟩ := stars_append h1
  exact ⟨c, g1, a1, fun k hk => h2 k ((a4 k).2 (.inr hk))⟩
/-- Something is done to the first ones. -/
theorem Scope.does (h : Scope S w0 w (As ++ Bs)) : ∃ f, (stars As).holds w f ∧ ∀ As' w', After (stars As') w f w' → Scope S w0 w' (As' ++ Bs) := by
  obtain ⟨c, fp, h1, h2⟩ := h
  obtain ⟨f, g, a1, a2, a3, a4⟩ := stars_append h1
  refine ⟨f, a1, fun As' w' ⟨f', b1, b2, b3⟩ => ?_⟩
  obtain ⟨fp', d1, d2⟩ := stars_join b1 ((stars Bs).chg a2 b2 (fun k hk hm => a3 k hm hk)) (b3.apart a3 ((stars Bs).lt a2))
  refine ⟨c.trans b2 (fun k hk => h2 k ((a4 k).2 (.inl hk))), fp', d1, fun k hk => ?_⟩
  rcases (d2 k).1 hk with h | h
  · rcases b3 k h with h | h
    · exact h2 k ((a4 k).2 (.inl h))
    · exact .inr (Nat.le_trans c.size h)
  · exact h2 k ((a4 k).2 (.inr h))
/-- The order is of no matter. -/
theorem Scope.swap {Cs : List HA} (h : Scope S w0 w (As ++ (Bs ++ Cs))) : Scope S w0 w (Bs ++ (As ++ Cs)) := by
  obtain ⟨c, fp, h1, h2⟩ := h
  obtain ⟨f, g, a1, a2, a3, a4⟩ := stars_append h1
  obtain ⟨f', g', b1, b2, b3, b4⟩ := stars_append a2
  obtain ⟨x, x1, x2⟩ := stars_join a1 b2 (fun k hk hm => a3 k hk ((b4 k).2 (.inr hm)))
  obtain ⟨y, y1, y2⟩ := stars_join b1 x1 (fun k hk hm => by
    rcases (x2 k).1 hm with h | h
    · exact a3 k h ((b4 k).2 (.inl hk))
    · exact b3 k hk h)
  refine ⟨c, y, y1, fun k hk => h2 k ((a4 k).2 ?_)⟩
  rcases (y2 k).1 hk with h | h
  · exact .inr ((b4 k).2 (.inl h))
  · rcases (x2 k).1 h with h | h
    · exact .inl h
    · exact .inr ((b4 k).2 (.inr h))
/-- What comes new. -/
theorem Scope.join (h : Scope S w0 w As) {g : List Nat} (hb : (stars Bs).holds w' g) (c' : Chg [] w w') (hn : ∀ k, k ∈ g → w.heap.size ≤ k) : Scope S w0 w' (As ++ Bs) := by
  obtain ⟨c, f, h1, h2⟩ := h
  obtain ⟨fp, d1, d2⟩ := stars_join ((stars As).chg h1 c' (by simp)) hb (fun k hk hm => by have := (stars As).lt h1 k hk; have := hn k hm; omega)
  refine ⟨c.quiet c', fp, d1, fun k hk => ?_⟩
  rcases (d2 k).1 hk with h | h
  · exact h2 k h
  · exact .inr (Nat.le_trans c.size (hn k h))
theorem Scope.box (h : Scope S w0 w As) (vs : List Value) (t : TypeId) : Scope S w0 (w.alloc (.cells vs.toArray t)) (As ++ [box w.heap.size vs t]) :=
  h.join (g := [w.heap.size]) ⟨[w.heap.size], [], ⟨Row.new w vs t, rfl⟩, rfl, (fun _ _ h => by cases h), rfl⟩ ((Chg.refl _ _).alloc _) (by simp)
theorem Scope.joinL (h : Scope S w0 w As) {g : List Nat} (hb : (stars Bs).holds w' g) (c' : Chg [] w w') (hn : ∀ k, k ∈ g → w.heap.size ≤ k) : Scope S w0 w' (Bs ++ As) := by
  have := h.join hb c' hn
  have h2 : Scope S w0 w' (As ++ (Bs ++ [])) := by simpa using this
  simpa using h2.swap
theorem Scope.get (h : Scope S w0 w As) (i : Nat) (hi : As[i]? = some A) : ∃ f, A.holds w f ∧ ∀ k, k ∈ f → k ∈ S ∨ w0.heap.size ≤ k := by
  obtain ⟨c, fp, h1, h2⟩ := h
  induction As generalizing fp i with
  | nil => simp at hi
  | cons X Xs ih =>
    obtain ⟨f, g, ha, hb, hd, rfl⟩ := h1
    cases i with
    | zero => simp at hi; subst hi; exact ⟨f, ha, fun k hk => h2 k (by simp [hk])⟩
    | succ i => exact ih i (by simpa using hi) g hb (fun k hk => h2 k (by simp [hk]))
theorem Scope.row (h : Scope S w0 w As) {k : Nat} {vs : List Value} {t : TypeId} (i : Nat) (hi : As[i]? = some (Go.Proofs.Ytcbipbnomgdklaa.box k vs t)) : Row w k vs t := by
  obtain ⟨f, h1, _⟩ := h.get i hi
  exact h1.1
theorem Scope.fact (h : Scope S w0 w As) {P : Prop} (i : Nat) (hi : As[i]? = some (Go.Proofs.Ytcbipbnomgdklaa.fact P)) : P := by
  obtain ⟨f, h1, _⟩ := h.get i hi
  exact h1.1
theorem After.intro1 (h : After A w fp w') : After (stars [A]) w fp w' := by
  obtain ⟨f, h1, h2, h3⟩ := h
  exact ⟨f, ⟨f, [], h1, rfl, fun _ _ h => (by cases h), by simp⟩, h2, h3⟩
theorem stars_one (h : (stars [A]).holds w fp) : A.holds w fp := by
  obtain ⟨f, g, h1, h2, _, rfl⟩ := h
  cases (show g = [] from h2)
  simpa using h1
theorem stars_mk1 (h : A.holds w fp) : (stars [A]).holds w fp := ⟨fp, [], h, rfl, fun _ _ h => (by cases h), by simp⟩
end

/-- A call of f, done to the things As: it tells r, and they are As' then. -/
def Does (P : Program) (As : List HA) (f : FuncId) (args : Array Value) (r : Value) (As' : List HA) : Prop :=
  ∀ w fp, (stars As).holds w fp → Calls P f args w fun e w' => e = .returned r ∧ After (stars As') w fp w'

theorem Does.call {P : Program} {As As' Bs : List HA} {f : FuncId} {args : Array Value} {r : Value} {S : List Nat} {w0 w : World} (d : Does P As f args r As') (h : Scope S w0 w (As ++ Bs)) :
    Calls P f args w fun e w' => e = .returned r ∧ Scope S w0 w' (As' ++ Bs) := by
  obtain ⟨fp, h1, h2⟩ := h.does
  exact (d w fp h1).mono fun e w' ⟨he, ha⟩ => ⟨he, h2 As' w' ha⟩

end Go.Proofs.Ytcbipbnomgdklaa
