/- The methods of package mem, as what they do to the things that lie in memory. -/
import Derived.Test.YtcbipbnomgdklaaSep
import Derived.Test.YtcbipbnomgdklaaClone
set_option linter.unusedSimpArgs false
set_option linter.unusedVariables false
namespace Go.Proofs.Ytcbipbnomgdklaa
open Go Go.RowKit Go.Maps

/-- A memory at block p. -/
def memA (p : Nat) (σ : MS) : HA := ⟨fun w fp => MemAt w p fp σ, fun h => h.lt, fun h c hn => h.chg c hn⟩
@[reducible] def ptr (p : Nat) : Value := .pointer (some ⟨p, 0, none⟩)

section
variable {p : Nat} {σ : MS}
theorem peek_does (l : Lc) (hl : l.wf) : Does Try.prog [memA p σ] 12 #[ptr p, l.val] (.int .u64 (σ.num l)) [memA p σ] := fun w fp h =>
  (peek_any (stars_one h) l hl).mono fun _ _ ⟨he, hc⟩ => ⟨he, After.intro1 (Left.quiet (Left.refl (stars_one h)) hc)⟩
theorem load_does (who : Int) (l : Lc) (hl : l.wf) (hn : σ.log.length ≤ 1000000) : Does Try.prog [memA p σ] 15 #[ptr p, .int .i64 who, l.val] (.int .u64 (σ.num l)) [memA p (σ.put who 1 l)] := fun w fp h =>
  (load_any (stars_one h) who l hl hn).mono fun _ _ ⟨he, hL⟩ => ⟨he, After.intro1 hL⟩
theorem store_does (who : Int) (l : Lc) (hl : l.wf) (x : Int) (hx : U64 x) (hn : σ.log.length ≤ 1000000) : Does Try.prog [memA p σ] 18 #[ptr p, .int .i64 who, l.val, .int .u64 x] (.tuple #[]) [memA p ((σ.put who 2 l).set l x)] := fun w fp h =>
  (store_any (stars_one h) who l hl x hx hn).mono fun _ _ ⟨he, hL⟩ => ⟨he, After.intro1 hL⟩
theorem swap_does (who : Int) (l : Lc) (hl : l.wf) (was now : Int) (hx : U64 now) (hn : σ.log.length ≤ 1000000) : Does Try.prog [memA p σ] 11 #[ptr p, .int .i64 who, l.val, .int .u64 was, .int .u64 now] (.bool (decide (σ.num l = was))) [memA p (σ.swap who l was now)] := fun w fp h =>
  (swap_any (stars_one h) who l hl was now hx hn).mono fun _ _ ⟨he, hL⟩ => ⟨he, After.intro1 hL⟩
theorem add_does (who : Int) (l : Lc) (hl : l.wf) (x : Int) (hx : U64 x) (hn : σ.log.length ≤ 1000000) : Does Try.prog [memA p σ] 17 #[ptr p, .int .i64 who, l.val, .int .u64 x] (.int .u64 (σ.num l)) [memA p ((σ.put who 3 l).set l (IntKind.u64.wrap (σ.num l + x)))] := fun w fp h =>
  (add_any (stars_one h) who l hl x hx hn).mono fun _ _ ⟨he, hL⟩ => ⟨he, After.intro1 hL⟩
theorem take_does (who : Int) (l : Lc) (hl : l.wf) (x : Int) (hx : U64 x) (hn : σ.log.length ≤ 1000000) : Does Try.prog [memA p σ] 16 #[ptr p, .int .i64 who, l.val, .int .u64 x] (.int .u64 (σ.num l)) [memA p ((σ.put who 3 l).set l x)] := fun w fp h =>
  (take_any (stars_one h) who l hl x hx hn).mono fun _ _ ⟨he, hL⟩ => ⟨he, After.intro1 hL⟩
theorem read_does (who : Int) (l : Lc) (hn : σ.log.length ≤ 1000000) : Does Try.prog [memA p σ] 22 #[ptr p, .int .i64 who, l.val] (.tuple #[]) [memA p (σ.put who 5 l)] := fun w fp h =>
  (read_any (stars_one h) who l hn).mono fun _ _ ⟨he, hL⟩ => ⟨he, After.intro1 hL⟩
theorem write_does (who : Int) (l : Lc) (hn : σ.log.length ≤ 1000000) : Does Try.prog [memA p σ] 23 #[ptr p, .int .i64 who, l.val] (.tuple #[]) [memA p (σ.put who 6 l)] := fun w fp h =>
  (write_any (stars_one h) who l hn).mono fun _ _ ⟨he, hL⟩ => ⟨he, After.intro1 hL⟩
theorem len_does (hn : σ.log.length ≤ 1000000) : Does Try.prog [memA p σ] 19 #[ptr p] (.int .i64 σ.log.length) [memA p σ] := fun w fp h =>
  (len_any (stars_one h) hn).mono fun _ _ ⟨he, hw⟩ => ⟨he, After.intro1 (hw ▸ Left.refl (stars_one h))⟩
end

section
variable {S : List Nat} {w0 w : World} {As Bs : List HA}
/-- New: a memory more. -/
def NewMem (S : List Nat) (w0 : World) (As : List HA) (e : Ending) (w' : World) : Prop := ∃ p, e = .returned (ptr p) ∧ Scope S w0 w' ([memA p MS.zero] ++ As)
theorem new_scope (h : Scope S w0 w As) : Calls Try.prog 8 #[] w (NewMem S w0 As) :=
  (new_any w).mono fun _ _ ⟨he, hm, _, _, hc⟩ => ⟨_, he, h.joinL (stars_mk1 (A := memA _ _) hm) hc (by simp)⟩

/-- A copy more: its value is v. -/
def Copied (S : List Nat) (w0 : World) (As : List HA) (t : TypeId) (size n : Nat) (xs : List Value) (e : Ending) (w' : World) : Prop := ∃ v, e = .returned v ∧ Scope S w0 w' (As ++ [ownA v t size n xs])
theorem events_scope {p : Nat} {σ : MS} (h : Scope S w0 w ([memA p σ] ++ Bs)) (hn : σ.log.length ≤ 1000000) :
    Calls Try.prog 14 #[ptr p] w (Copied S w0 ([memA p σ] ++ Bs) 33 5 σ.log.length (evs σ.log)) := by
  obtain ⟨f, hf, _⟩ := h.get 0 rfl
  exact (events_any hf hn).mono fun _ _ ⟨v, he, h1, h2, h3⟩ => ⟨v, he, h.join (stars_mk1 (A := ownA v _ _ _ _) ⟨h1, rfl⟩) h2 (fun k hk => h3 k (by simpa using hk))⟩

theorem EvSlice.of_box {w : World} {k : Nat} {L : List Ev} {t : TypeId} (h : Row w k (evs L) t) : EvSlice w (.slice (some ⟨k, 0, none⟩) L.length L.length) L :=
  .inr ⟨k, 0, _, rfl, fun j u hu => by simpa using h.cell hu⟩
theorem Scope.evs (h : Scope S w0 w As) {v : Value} {L : List Ev} (i : Nat) (hi : As[i]? = some (ownA v 33 5 L.length (Go.Proofs.Ytcbipbnomgdklaa.evs L))) : EvSlice w v L := by
  obtain ⟨f, h1, _⟩ := h.get i hi
  exact EvSlice.of_owns h1.1
theorem plain_scope {va vb : Value} {A B : List Ev} (h : Scope S w0 w As) (ha : EvSlice w va A) (hb : EvSlice w vb B) (hla : A.length ≤ 1000000) :
    Calls Try.prog 13 #[va, vb] w fun e w' => e = .returned (.bool (decide (A = B))) ∧ Scope S w0 w' As :=
  (plainEv_any ha hb hla).mono fun _ _ ⟨he, hc⟩ => ⟨he, h.quiet hc⟩
end
end Go.Proofs.Ytcbipbnomgdklaa
