/- Two rings over one memory, of two objects. -/
import Derived.Test.YtjipjhmcpjffcadRingU
set_option linter.unusedSimpArgs false
set_option linter.unusedVariables false
set_option maxRecDepth 20000
namespace Go.Proofs.Ytjipjhmcpjffcad
open Go Go.RowKit Go.Maps
theorem xor1_ne (a : Int) : bits .xor .i64 a 1 ≠ a := by
  intro h
  have h1 : bits .xor .i64 a 1 = IntKind.i64.wrap ((BitVec.ofInt 64 a ^^^ BitVec.ofInt 64 1).toNat : Int) := rfl
  rw [h1, IntKind.wrap_i64] at h
  have h2 := (BitVec.ofInt 64 a ^^^ BitVec.ofInt 64 1).isLt
  have h3 : (BitVec.ofInt 64 a).toNat = (a % 18446744073709551616).toNat := by rw [BitVec.toNat_ofInt]; rfl
  have h4 : (BitVec.ofInt 64 a ^^^ BitVec.ofInt 64 1) = BitVec.ofInt 64 a := BitVec.eq_of_toNat_eq (by rw [h3]; omega)
  have h5 : BitVec.ofInt 64 a ^^^ (BitVec.ofInt 64 a ^^^ BitVec.ofInt 64 1) = BitVec.ofInt 64 a ^^^ BitVec.ofInt 64 a := congrArg (fun z => BitVec.ofInt 64 a ^^^ z) h4
  rw [← BitVec.xor_assoc, BitVec.xor_self, BitVec.zero_xor] at h5
  revert h5
  decide
theorem xor1_i (a : Int) : I64 (bits .xor .i64 a 1) := by
  have h1 : bits .xor .i64 a 1 = IntKind.i64.wrap ((BitVec.ofInt 64 a ^^^ BitVec.ofInt 64 1).toNat : Int) := rfl
  rw [h1, IntKind.wrap_i64]
  unfold I64
  omega
theorem other {S : List Nat} {w0 w : World} {p1 p2 m g1 g2 l : Nat} {a b : Int} {σ : MS} {c1 c2 : Cs l} {Q R : HA} {Es : List HA} (h : Scope S w0 w (ringA p1 m a g1 l σ c1 :: Q :: stars [rb p2 m b g2 l, gb g2 c2.1] :: R :: Es)) :
    Scope S w0 w (ringA p2 m b g2 l σ c2 :: R :: stars [rb p1 m a g1 l, gb g1 c1.1] :: Q :: Es) := by
  have h0 : Scope S w0 w ([memA m σ, rb p1 m a g1 l, gb g1 c1.1] ++ (Q :: stars [rb p2 m b g2 l, gb g2 c2.1] :: R :: Es)) := h.open1
  have h1 : Scope S w0 w (stars [rb p2 m b g2 l, gb g2 c2.1] :: ([memA m σ, rb p1 m a g1 l, gb g1 c1.1, Q] ++ (R :: Es))) := Scope.swap (As := [memA m σ, rb p1 m a g1 l, gb g1 c1.1, Q]) (Bs := [stars [rb p2 m b g2 l, gb g2 c2.1]]) (Cs := R :: Es) h0
  have h2 : Scope S w0 w ([rb p2 m b g2 l, gb g2 c2.1] ++ ([memA m σ, rb p1 m a g1 l, gb g1 c1.1, Q] ++ (R :: Es))) := h1.open1
  have h3 : Scope S w0 w ([memA m σ, rb p2 m b g2 l, gb g2 c2.1] ++ ([rb p1 m a g1 l, gb g1 c1.1, Q] ++ (R :: Es))) := Scope.swap (As := [rb p2 m b g2 l, gb g2 c2.1]) (Bs := [memA m σ]) (Cs := [rb p1 m a g1 l, gb g1 c1.1, Q] ++ (R :: Es)) h2
  have h4 : Scope S w0 w (ringA p2 m b g2 l σ c2 :: ([rb p1 m a g1 l, gb g1 c1.1, Q] ++ (R :: Es))) := h3.shut1
  have h5 : Scope S w0 w ([rb p1 m a g1 l, gb g1 c1.1] ++ (ringA p2 m b g2 l σ c2 :: Q :: R :: Es)) := Scope.swap (As := [ringA p2 m b g2 l σ c2]) (Bs := [rb p1 m a g1 l, gb g1 c1.1]) (Cs := Q :: R :: Es) h4
  have h6 : Scope S w0 w (stars [rb p1 m a g1 l, gb g1 c1.1] :: (ringA p2 m b g2 l σ c2 :: Q :: R :: Es)) := h5.shut1
  have h7 : Scope S w0 w (ringA p2 m b g2 l σ c2 :: stars [rb p1 m a g1 l, gb g1 c1.1] :: Q :: R :: Es) := h6.swap2
  exact (Scope.swap (As := [ringA p2 m b g2 l σ c2, stars [rb p1 m a g1 l, gb g1 c1.1], Q]) (Bs := [R]) (Cs := Es) h7).swap2
structure Two (a b : Int) (σ τ ρ : MS) (n : Nat) : Prop where
  one : Agr a σ τ
  two : Agr b σ ρ
  sum : σ.log.length = τ.log.length + ρ.log.length
  le1 : τ.log.length ≤ n
  le2 : ρ.log.length ≤ n
theorem Two.left {a b : Int} {σ τ ρ σ' τ' : MS} {n : Nat} (h : Two a b σ τ ρ n) (hab : a ≠ b) (r : Rel a σ τ σ' τ') : Agr a σ' τ' ∧ Agr b σ' ρ ∧ σ'.log.length = τ'.log.length + ρ.log.length ∧ τ'.log.length ≤ n + 1 := by
  obtain ⟨d, hd, h1, h2⟩ := r.log
  refine ⟨r.agr, fun l hl => ?_, ?_, ?_⟩
  · rw [r.left l (by rw [hl]; exact hab.symm)]; exact h.two l hl
  · rw [h1, h2, List.length_append, List.length_append, h.sum]; omega
  · rw [h2, List.length_append]; have := h.le1; omega
theorem Two.flip {a b : Int} {σ τ ρ : MS} {n : Nat} (h : Two a b σ τ ρ n) : Two b a σ ρ τ n := ⟨h.two, h.one, by rw [h.sum]; omega, h.le2, h.le1⟩
theorem Two.step1 {a b : Int} {σ τ ρ σ' τ' : MS} {n : Nat} (h : Two a b σ τ ρ n) (hab : a ≠ b) (r : Rel a σ τ σ' τ') : Two a b σ' τ' ρ (n + 1) := by
  obtain ⟨h1, h2, h3, h4⟩ := h.left hab r
  exact ⟨h1, h2, h3, h4, by have := h.le2; omega⟩
theorem Two.up {a b : Int} {σ τ ρ : MS} {n k : Nat} (h : Two a b σ τ ρ n) (hk : n ≤ k) : Two a b σ τ ρ k := ⟨h.one, h.two, h.sum, by have := h.le1; omega, by have := h.le2; omega⟩
theorem Two.bound {a b : Int} {σ τ ρ : MS} {n : Nat} (h : Two a b σ τ ρ n) : σ.log.length ≤ 2 * n := by have := h.le1; have := h.le2; have := h.sum; omega
theorem step17_c {S : List Nat} {w0 w : World} {Bs : List HA} {p m g q x g' n l : Nat} {obj : Int} {c : Cs l} {σ τ : MS} {u : Us} (ho : I64 obj) (l0 : 1 ≤ l) (l8 : l ≤ 8)
    (h : Scope S w0 w (ringA p m obj g l σ c :: rringA q x obj g' l n τ c :: Bs)) (ha : Agr obj σ τ) (hu : u.wf) (hn : n ≤ 800000) (hl : σ.log.length ≤ 900000) (hm : τ.log.length ≤ 900000) :
    Calls Try.prog 29 #[ptr p, ptr q, u.val] w fun e w' => e = .returned (.bool true) ∧ ∃ (σ' τ' : MS) (c' : Cs l), Rel obj σ τ σ' τ' ∧ Scope S w0 w' (ringA p m obj g l σ' c' :: rringA q x obj g' l (n + 2) τ' c' :: Bs) := by
  obtain ⟨cs, rfl⟩ := c
  refine (step17_any h ha ho hu l0 l8 hn hl hm).mono ?_
  rintro e w' ⟨he, σ', τ', ds, hd, hr, hs⟩
  exact ⟨he, σ', τ', ⟨ds, hd⟩, hr, hs⟩
end Go.Proofs.Ytjipjhmcpjffcad
