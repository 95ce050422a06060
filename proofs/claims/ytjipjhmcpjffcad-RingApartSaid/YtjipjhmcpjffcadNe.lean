/- Two blocks of cells that lie side by side are two. -/
import Derived.Test.YtjipjhmcpjffcadBoxes
set_option linter.unusedSimpArgs false
set_option linter.unusedVariables false
set_option maxRecDepth 20000
namespace Go.Proofs.Ytjipjhmcpjffcad
open Go Go.RowKit Go.Maps
theorem mem_stars {As : List HA} {w : World} : ∀ {fp : List Nat} {j b : Nat} {vs : List Value} {t : TypeId}, (stars As).holds w fp → As[j]? = some (box b vs t) → b ∈ fp := by
  induction As with
  | nil => intro fp j b vs t _ h; simp at h
  | cons A As ih =>
    rintro fp j b vs t ⟨f, g, h1, h2, h3, rfl⟩ hj
    cases j with
    | zero => simp at hj; subst hj; obtain ⟨_, rfl⟩ := h1; simp
    | succ j => exact List.mem_append.2 (.inr (ih h2 (by simpa using hj)))
theorem ne_stars {As : List HA} {w : World} : ∀ {fp : List Nat} {i j a b : Nat} {vs us : List Value} {t r : TypeId}, (stars As).holds w fp → i < j → As[i]? = some (box a vs t) → As[j]? = some (box b us r) → a ≠ b := by
  induction As with
  | nil => intro fp i j a b vs us t r _ _ h; simp at h
  | cons A As ih =>
    rintro fp i j a b vs us t r ⟨f, g, h1, h2, h3, rfl⟩ hij hi hj
    cases j with
    | zero => omega
    | succ j =>
      cases i with
      | zero =>
        simp at hi
        subst hi
        obtain ⟨_, rfl⟩ := h1
        have := mem_stars (vs := us) (t := r) h2 (j := j) (by simpa using hj)
        exact fun e => h3 a (by simp) (e ▸ this)
      | succ i => exact ih (vs := vs) (us := us) (t := t) (r := r) h2 (by omega : i < j) (by simpa using hi) (by simpa using hj)
theorem Scope.bne {S : List Nat} {w0 w : World} {As : List HA} {i j a b : Nat} {vs us : List Value} {t r : TypeId} (h : Scope S w0 w As) (hij : i < j) (hi : As[i]? = some (Go.Proofs.Ytjipjhmcpjffcad.box a vs t)) (hj : As[j]? = some (Go.Proofs.Ytjipjhmcpjffcad.box b us r)) : a ≠ b := by
  obtain ⟨_, fp, h1, _⟩ := h
  exact ne_stars h1 hij hi hj
end Go.Proofs.Ytjipjhmcpjffcad
