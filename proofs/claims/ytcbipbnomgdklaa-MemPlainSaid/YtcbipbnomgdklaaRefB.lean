/- The reference's memory as numbers by places (look); place in one contract; a slot of its numbers. -/
import Derived.Test.YtcbipbnomgdklaaPlaceN
set_option linter.unusedSimpArgs false
set_option linter.unusedVariables false
namespace Go.Proofs.Ytcbipbnomgdklaa
open Go Go.RowKit Go.Maps

theorem ownsRow_put {w : World} {b : Nat} {e : TypeId} {size : Nat} {v : Value} {n : Nat} {xs : List Value} (h : w.ownsRow b e size v n xs) {g : Nat} (hg : v.ownBlock = some g) {j : Nat} (hj : j < n * size) (u : Value) :
    (w.setCell ⟨g, j, none⟩ u).ownsRow b e size v n (xs.set j u) := by
  obtain ⟨h1, h2⟩ := h
  refine ⟨by simpa using h1, ?_⟩
  rcases h2 with ⟨rfl, rfl⟩ | ⟨g', cap, cur, rfl, a1, a2, a3, a4, a5, rfl⟩
  · simp at hj
  · simp [Value.ownBlock] at hg
    subst hg
    refine .inr ⟨_, cap, cur.setIfInBounds j u, rfl, a1, by simp [World.setCell, Array.getElem?_modify, a2], a3, a4, by simpa using a5, ?_⟩
    simp [List.take_set]

theorem ownsRow_free {w : World} {b : Nat} {e : TypeId} {size : Nat} {v : Value} {n : Nat} {xs : List Value} (h : w.ownsRow b e size v n xs) {g : Nat} (hg : v.ownBlock = some g) (j : Nat) : w.frozen? ⟨g, j, none⟩ = false := by
  rcases h.2 with ⟨rfl, rfl⟩ | ⟨g', cap, cur, rfl, a1, a2, _⟩
  · simp [Value.ownBlock] at hg
  · simp [Value.ownBlock] at hg
    subst hg
    simp [World.frozen?, a2]

/-- What the reference tells of a place. -/
def look : List (Lc × Int) → Lc → Int
  | [], _ => 0
  | x :: kv, l => if x.1 = l then x.2 else look kv l

theorem look_snoc (kv : List (Lc × Int)) (l : Lc) : look (kv ++ [(l, 0)]) = look kv := by
  funext l'
  induction kv with
  | nil => simp [look]
  | cons x kv ih => simp [look, ih]
theorem NotYet.tail {x : Lc × Int} {kv : List (Lc × Int)} {l : Lc} {k : Nat} (h : NotYet (x :: kv) l (k + 1)) : x.1 ≠ l ∧ NotYet kv l k :=
  ⟨h 0 x (by omega) rfl, fun j y hj hy => h (j + 1) y (by omega) (by simpa using hy)⟩
theorem look_at {kv : List (Lc × Int)} {l : Lc} : ∀ {k : Nat} {x : Int}, kv[k]? = some (l, x) → NotYet kv l k → look kv l = x := by
  induction kv with
  | nil => intro k x h; simp at h
  | cons y kv ih =>
    intro k x h hn
    cases k with
    | zero => simp at h; subst h; simp [look]
    | succ k =>
      obtain ⟨h1, h2⟩ := hn.tail
      simp only [look, if_neg h1]
      exact ih (by simpa using h) h2
theorem look_set {kv : List (Lc × Int)} {l : Lc} (y : Int) : ∀ {k : Nat} {x : Int}, kv[k]? = some (l, x) → NotYet kv l k → look (kv.set k (l, y)) = fun l' => if l' = l then y else look kv l' := by
  induction kv with
  | nil => intro k x h; simp at h
  | cons z kv ih =>
    intro k x h hn
    funext l'
    cases k with
    | zero =>
      simp at h
      subst h
      simp only [List.set_cons_zero, look]
      by_cases e : l' = l
      · subst e; simp
      · simp only [if_neg e, if_neg (fun h : l = l' => e h.symm)]
    | succ k =>
      obtain ⟨h1, h2⟩ := hn.tail
      simp only [List.set_cons_succ, look]
      rw [ih (by simpa using h) h2]
      by_cases e : l' = l
      · subst e; simp [h1]
      · simp [e]
theorem keys_set {kv : List (Lc × Int)} {l : Lc} (y : Int) : ∀ {k : Nat} {x : Int}, kv[k]? = some (l, x) → keys (kv.set k (l, y)) = keys kv := by
  induction kv with
  | nil => intro k x h; simp at h
  | cons z kv ih =>
    intro k x h
    cases k with
    | zero => simp at h; subst h; simp [keys]
    | succ k =>
      have := ih (k := k) (x := x) (by simpa using h)
      simp only [keys, List.set_cons_succ, List.flatMap_cons] at this ⊢
      rw [this]
theorem nums_set (kv : List (Lc × Int)) (l : Lc) (y : Int) (k : Nat) : nums (kv.set k (l, y)) = (nums kv).set k (.int .u64 y) := by simp [nums, List.map_set]

/-- Where the place's number stands; it is there now. -/
def Placed (w : World) (p : Nat) (fp : List Nat) (log : List Ev) (kv : List (Lc × Int)) (l : Lc) (e : Ending) (w' : World) : Prop :=
  ∃ (kv' : List (Lc × Int)) (k : Nat), kv'[k]? = some (l, look kv l) ∧ NotYet kv' l k ∧ look kv' = look kv ∧ kv'.length ≤ kv.length + 1 ∧ e = .returned (.int .i64 (k : Nat)) ∧ After (refB p log kv') w fp w'

theorem place_any {w : World} {p : Nat} {fp : List Nat} {log : List Ev} {kv : List (Lc × Int)} (h : RefAt w p fp log kv) (l : Lc) (hn : kv.length ≤ 1000000) :
    Calls Try.prog 41 #[.pointer (some ⟨p, 0, none⟩), l.val] w (Placed w p fp log kv l) := by
  by_cases hin : ∃ (j : Nat) (x : Int), kv[j]? = some (l, x)
  · refine (place_found h l hn hin).mono fun e w' ⟨k, x, h1, h2, h3, h4⟩ => ⟨kv, k, ?_, h2, rfl, by omega, h3, fp, (refB p log kv).chg h h4 (by simp), (h4.mono fun _ h => by cases h), Own.refl _ _⟩
    rw [look_at h1 h2]
    exact h1
  · have hno : ∀ x, x ∈ kv → x.1 ≠ l := fun x hx e => by
      obtain ⟨j, hj⟩ := List.mem_iff_getElem?.1 hx
      exact hin ⟨j, x.2, by rw [hj, ← e]⟩
    have hz : look kv l = 0 := by
      clear h hn hin
      induction kv with
      | nil => rfl
      | cons y kv ih => simp only [look, if_neg (hno y (by simp))]; exact ih (fun x hx => hno x (by simp [hx]))
    refine (place_new h l hn hno).mono fun e w' ⟨he, ha⟩ => ⟨_, kv.length, ?_, ?_, look_snoc kv l, by simp, he, ha⟩
    · rw [hz]; simp
    · intro j x hj hx
      rw [List.getElem?_append_left hj] at hx
      exact hno x (List.mem_of_getElem? hx)

/-- The slot of a number: what it holds, and what its turning leaves. -/
theorem ref_slot {w : World} {p : Nat} {fp : List Nat} {log : List Ev} {kv : List (Lc × Int)} {l : Lc} {k : Nat} {x : Int} (h : RefAt w p fp log kv) (hk : kv[k]? = some (l, x)) :
    ∃ g cap, k < kv.length ∧ w.cell? ⟨p, 1, none⟩ = some (.slice (some ⟨g, 0, none⟩) kv.length cap) ∧ w.cell? ⟨g, k, none⟩ = some (.int .u64 x) ∧ w.frozen? ⟨g, k, none⟩ = false ∧
      ∀ y, After (refB p log (kv.set k (l, y))) w fp (w.setCell ⟨g, k, none⟩ (.int .u64 y)) := by
  obtain ⟨vA, vV, vE, h1, h2, h3, h4, hfp⟩ := h
  have hlt := (List.getElem?_eq_some_iff.1 hk).1
  rcases ownsRow_form h3 with ⟨rfl, h0⟩ | ⟨g, cap, rfl, hg, hcap, hcm⟩
  · omega
  have np : g ≠ p := fun e => (ownsRow_not_row h3 h1 (by decide)) (by simp [Value.ownBlock, e])
  have nA : vA.ownBlock ≠ some g := fun e => ownsRow_apart h2 h3 (by decide) g e rfl
  have nE : vE.ownBlock ≠ some g := fun e => ownsRow_apart h4 h3 (by decide) g e rfl
  refine ⟨g, cap, hlt, h1.cell rfl, ownsRow_cell h3 rfl (by simp [nums, hk]), ownsRow_free h3 rfl k, fun y => ?_⟩
  have c : Chg [g] w (w.setCell ⟨g, k, none⟩ (.int .u64 y)) := (Chg.refl _ _).setCell (.inl (by simp)) _
  refine ⟨fp, ⟨vA, _, vE, h1.chg c (by simp; exact fun e => np e.symm), ?_, ?_, ?_, hfp⟩, ?_, Own.refl _ _⟩
  · rw [keys_set y hk, List.length_set]
    exact ownsRow_chg h2 c (fun i hi => by simp; rintro rfl; exact nA hi)
  · rw [nums_set, List.length_set]
    exact ownsRow_put h3 rfl (by omega) _
  · exact ownsRow_chg h4 c (fun i hi => by simp; rintro rfl; exact nE hi)
  · rw [hfp]
    exact c.mono (fun i hi _ => by simp at hi; subst hi; simp [Value.ownBlock])
end Go.Proofs.Ytcbipbnomgdklaa
