/- Things that are held together as one thing (stars); a method's contract out of a walk over a scope. -/
import Derived.Test.YtjipjhmcpjffcacRefD
set_option linter.unusedSimpArgs false
set_option linter.unusedVariables false
set_option maxRecDepth 20000
namespace Go.Proofs.Ytjipjhmcpjffcac
open Go Go.RowKit Go.Maps

section
variable {P : Program} {S : List Nat} {w0 w w' : World} {A A' X : HA} {As As' Bs Js : List HA} {f : FuncId} {args : Array Value} {r : Value}
/-- A thing that is several: laid open. -/
theorem Scope.open1 (h : Scope S w0 w (stars As :: Bs)) : Scope S w0 w (As ++ Bs) := by
  obtain ⟨c, fp, ⟨f, g, h1, h2, h3, h4⟩, h5⟩ := h
  obtain ⟨fp', d1, d2⟩ := stars_join h1 h2 h3
  refine ⟨c, fp', d1, fun k hk => h5 k ?_⟩
  rw [h4]
  exact List.mem_append.2 ((d2 k).1 hk)
/-- And shut. -/
theorem Scope.shut1 (h : Scope S w0 w (As ++ Bs)) : Scope S w0 w (stars As :: Bs) := by
  obtain ⟨c, fp, h1, h2⟩ := h
  obtain ⟨f, g, a1, a2, a3, a4⟩ := stars_append h1
  exact ⟨c, f ++ g, ⟨f, g, a1, a2, a3, rfl⟩, fun k hk => h2 k ((a4 k).2 (List.mem_append.1 hk))⟩
/-- What a walk leaves: it tells r, and the things are As' then, and some of its own. -/
def Ends (S : List Nat) (w0 : World) (r : Value) (As' : List HA) (e : Ending) (w' : World) : Prop := e = .returned r ∧ ∃ Js, Scope S w0 w' (As' ++ Js)
theorem Ends.mk (Js : List HA) (h : Scope S w0 w' (As' ++ Js)) : Ends S w0 r As' (.returned r) w' := ⟨rfl, Js, h⟩
theorem Ends.mk' {r' : Value} (he : r = r') (Js : List HA) (h : Scope S w0 w' (As' ++ Js)) : Ends S w0 r' As' (.returned r) w' := by subst he; exact ⟨rfl, Js, h⟩
theorem Does.pack (d : ∀ (S : List Nat) (w0 w : World), Scope S w0 w As → Calls P f args w (Ends S w0 r As')) : Does P [stars As] f args r [stars As'] := fun w fp h =>
  (d fp w w (Scope.start (stars_one h))).mono fun _ _ ⟨he, _, hs⟩ => ⟨he, After.intro1 (A := stars As') hs.drop.after⟩
theorem Does.of_scope (d : ∀ (S : List Nat) (w0 w : World), Scope S w0 w As → Calls P f args w (Ends S w0 r As')) : Does P As f args r As' := fun w fp h =>
  (d fp w w (Scope.start h)).mono fun _ _ ⟨he, _, hs⟩ => ⟨he, hs.drop.after⟩
theorem Does.more (hm : ∀ w fp, A'.holds w fp → X.holds w fp) (d : Does P [A] f args r [A']) : Does P [A] f args r [X] := fun w fp h =>
  (d w fp h).mono fun _ _ ⟨he, fp', h1, h2⟩ => ⟨he, fp', stars_mk1 (hm _ _ (stars_one h1)), h2⟩
theorem Does.at0 (d : Does P [A] f args r [A']) (h : Scope S w0 w (A :: Bs)) : Calls P f args w fun e w' => e = .returned r ∧ Scope S w0 w' (A' :: Bs) := Does.call (As := [A]) (As' := [A']) (Bs := Bs) d h
theorem Scope.swap2 (h : Scope S w0 w (A :: X :: Bs)) : Scope S w0 w (X :: A :: Bs) := Scope.swap (As := [A]) (Bs := [X]) (Cs := Bs) h
theorem Does.at1 (d : Does P [A] f args r [A']) (h : Scope S w0 w (X :: A :: Bs)) : Calls P f args w fun e w' => e = .returned r ∧ Scope S w0 w' (X :: A' :: Bs) :=
  (d.at0 h.swap2).mono fun _ _ ⟨he, hs⟩ => ⟨he, hs.swap2⟩
theorem Scope.rowm (h : Scope S w0 w As) {k : Nat} {vs : List Value} {t : TypeId} (hi : Go.Proofs.Ytjipjhmcpjffcac.box k vs t ∈ As) : Row w k vs t := by
  obtain ⟨i, hi⟩ := List.mem_iff_getElem?.1 hi
  exact h.row i hi
theorem Scope.up1 {p n n' : Nat} {σ : MS} (h : Scope S w0 w (X :: refA p n σ :: Bs)) (hn : n ≤ n') : Scope S w0 w (X :: refA p n' σ :: Bs) :=
  (Scope.turn1 (B := refA p n' σ) h.swap2 (fun _ _ ⟨kv, h1, h2⟩ => ⟨kv, Nat.le_trans h1 hn, h2⟩)).swap2
/-- A function that makes nothing but blocks of its own, and tells r. -/
def Pure (P : Program) (f : FuncId) (args : Array Value) (r : Value) : Prop := ∀ w, Calls P f args w fun e w' => e = .returned r ∧ Chg [] w w'
theorem Pure.at (d : Pure P f args r) (h : Scope S w0 w As) : Calls P f args w fun e w' => e = .returned r ∧ Scope S w0 w' As := (d w).mono fun _ _ ⟨he, hc⟩ => ⟨he, h.quiet hc⟩
end
end Go.Proofs.Ytjipjhmcpjffcac
