/- One use of a ring and of the reference's, over memories that are the same. -/
import Derived.Test.YtjipjhmcpjffcadRingT
set_option linter.unusedSimpArgs false
set_option linter.unusedVariables false
set_option maxRecDepth 20000
namespace Go.Proofs.Ytjipjhmcpjffcad
open Go Go.RowKit Go.Maps
abbrev Cs (l : Nat) := {cs : List Pk // cs.length = l}
@[reducible] def ringA (p m : Nat) (obj : Int) (g l : Nat) (σ : MS) (c : Cs l) : HA := stars [memA m σ, rb p m obj g l, gb g c.1]
@[reducible] def rringA (q x : Nat) (obj : Int) (g l n : Nat) (τ : MS) (c : Cs l) : HA := stars [refA x n τ, rrb q x obj g l, gb g c.1]
theorem Scope.rring_up {q x g n n' l : Nat} {obj : Int} {τ : MS} {c : Cs l} {S : List Nat} {w0 w : World} {X : HA} {Bs : List HA} (h : Scope S w0 w (X :: rringA q x obj g l n τ c :: Bs)) (hn : n ≤ n') : Scope S w0 w (X :: rringA q x obj g l n' τ c :: Bs) := refs_up h hn
theorem step17_same {S : List Nat} {w0 w : World} {Bs : List HA} {p m g q x g' n l : Nat} {obj : Int} {c : Cs l} {σ : MS} {u : Us} (ho : I64 obj) (l0 : 1 ≤ l) (l8 : l ≤ 8)
    (h : Scope S w0 w (ringA p m obj g l σ c :: rringA q x obj g' l n σ c :: Bs)) (hu : u.wf) (hn : n ≤ 800000) (hl : σ.log.length ≤ 900000) :
    Calls Try.prog 29 #[ptr p, ptr q, u.val] w fun e w' => e = .returned (.bool true) ∧ ∃ (σ' : MS) (c' : Cs l), σ'.log.length ≤ σ.log.length + 2 ∧ Scope S w0 w' (ringA p m obj g l σ' c' :: rringA q x obj g' l (n + 2) σ' c' :: Bs) := by
  obtain ⟨cs, rfl⟩ := c
  refine (step17_any h (fun _ _ => rfl) ho hu l0 l8 hn hl hl).mono ?_
  rintro e w' ⟨he, σ', τ', ds, hd, hr, hs⟩
  obtain ⟨e1, e2⟩ := hr.same
  subst e1
  exact ⟨he, τ', ⟨ds, hd⟩, by omega, hs⟩
theorem rmostl_does {p m g l : Nat} {obj : Int} : Does Try.prog [rb p m obj g l] 13 #[ptr p] (.int .i64 l) [rb p m obj g l] := by
  have h := rmost_does (p := p) (m := m) (g := g) (obj := obj) (cs := zeros l)
  rwa [zeros_length] at h
def Made17b (S : List Nat) (w0 : World) (As : List HA) (obj : Int) (e : Ending) (w' : World) : Prop :=
  ∃ (l m p g q x g' : Nat) (c : Cs l), 1 ≤ l ∧ l ≤ 8 ∧ e = .returned (.tuple #[ptr m, ptr p, ptr q]) ∧ Scope S w0 w' (ringA p m obj g l MS.zero c :: rringA q x obj g' l 0 MS.zero c :: As)
theorem made17b_scope {S : List Nat} {w0 w : World} {As : List HA} (h : Scope S w0 w As) (obj most : Int) : Calls Try.prog 16 #[.int .i64 obj, .int .i64 most] w (Made17b S w0 As obj) := by
  refine (made17_scope h obj most).mono ?_
  rintro e w' ⟨m, p, g, q, x, g', cs, hl, -, he, hs⟩
  have hb := cl8_b (if 0 < mod most 5 then mod most 10 else most)
  refine ⟨cs.length, m, p, g, q, x, g', ⟨cs, rfl⟩, by rw [hl]; exact hb.1, by rw [hl]; exact hb.2, he, ?_⟩
  have h1 : Scope S w0 w' (stars [memA m MS.zero, rb p m obj g cs.length, gb g cs] :: ([refA x 0 MS.zero, rrb q x obj g' cs.length, gb g' cs] ++ As)) := Scope.shut1 (As := [memA m MS.zero, rb p m obj g cs.length, gb g cs]) (by simpa using hs)
  have h2 : Scope S w0 w' ([refA x 0 MS.zero, rrb q x obj g' cs.length, gb g' cs] ++ ([stars [memA m MS.zero, rb p m obj g cs.length, gb g cs]] ++ As)) := by
    have h3 : Scope S w0 w' ([stars [memA m MS.zero, rb p m obj g cs.length, gb g cs]] ++ ([refA x 0 MS.zero, rrb q x obj g' cs.length, gb g' cs] ++ As)) := by simpa using h1
    exact h3.swap
  exact (Scope.shut1 h2).swap2
end Go.Proofs.Ytjipjhmcpjffcad
