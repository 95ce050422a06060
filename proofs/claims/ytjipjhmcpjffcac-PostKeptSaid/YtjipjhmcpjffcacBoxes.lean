/- A store into a block of cells that lies among other things. -/
import Derived.Test.YtjipjhmcpjffcacPack
set_option linter.unusedSimpArgs false
set_option linter.unusedVariables false
set_option maxRecDepth 20000
namespace Go.Proofs.Ytjipjhmcpjffcac
open Go Go.RowKit Go.Maps

theorem Scope.setbox {S : List Nat} {w0 w : World} {As Bs : List HA} {k : Nat} {vs : List Value} {t : TypeId} (h : Scope S w0 w (As ++ ([Go.Proofs.Ytjipjhmcpjffcac.box k vs t] ++ Bs))) (j : Nat) (v : Value) :
    Scope S w0 (w.setCell ⟨k, j, none⟩ v) (As ++ ([Go.Proofs.Ytjipjhmcpjffcac.box k (vs.set j v) t] ++ Bs)) := by
  obtain ⟨f, hf, hd⟩ := h.swap.does
  obtain ⟨hr, rfl⟩ := stars_one hf
  have h3 : Scope S w0 _ ([Go.Proofs.Ytjipjhmcpjffcac.box k (vs.set j v) t] ++ (As ++ Bs)) := hd [Go.Proofs.Ytjipjhmcpjffcac.box k (vs.set j v) t] _ (After.intro1 ⟨[k], ⟨hr.set j v, rfl⟩, (Chg.refl [k] w).setCell (.inl (by simp)) _, Own.refl _ _⟩)
  exact h3.swap
end Go.Proofs.Ytjipjhmcpjffcac
