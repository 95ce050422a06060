/- The memory of package mem: what its block, its map and its log hold (MemAt), and what each of its methods leaves. -/
import Derived.Test.YtcbipbnomgdklaaBase
import Derived.Test.YtcbipbnomgdklaaRows
import Derived.DeepKeys4
import Derived.Deep.QuietTactic
import Derived.BigQuiet
import Derived.Deep.RegionHeld3
import Derived.Deep.AppendLies
import Derived.StillTailTactics
set_option linter.unusedSimpArgs false
set_option linter.unusedVariables false
namespace Go.Proofs.Ytcbipbnomgdklaa
open Go Go.RowKit Go.Maps

/-! ### places and events -/
/-- A place: its three numbers. -/
structure Lc where
  k : Int
  a : Int
  b : Int
  deriving DecidableEq
def I64 (n : Int) : Prop := -9223372036854775808 ≤ n ∧ n ≤ 9223372036854775807
def U64 (n : Int) : Prop := 0 ≤ n ∧ n ≤ 18446744073709551615
def Lc.wf (l : Lc) : Prop := I64 l.k ∧ I64 l.a ∧ I64 l.b
def Lc.cells (l : Lc) : List Value := [.int .i64 l.k, .int .i64 l.a, .int .i64 l.b]
@[reducible] def Lc.val (l : Lc) : Value := .agg #[.int .i64 l.k, .int .i64 l.a, .int .i64 l.b]
/-- An event: whose, of which kind, where. -/
structure Ev where
  who : Int
  kind : Int
  loc : Lc
  deriving DecidableEq
def Ev.cells (e : Ev) : List Value := [.int .i64 e.who, .int .i64 e.kind, .int .i64 e.loc.k, .int .i64 e.loc.a, .int .i64 e.loc.b]
/-- What a memory is: its events so far, and each place's number. -/
structure MS where
  log : List Ev
  num : Lc → Int
def evs (l : List Ev) : List Value := l.flatMap Ev.cells

theorem evs_length (l : List Ev) : (evs l).length = l.length * 5 := by
  unfold evs
  induction l with
  | nil => rfl
  | cons e l ih => simp [Ev.cells, ih]; omega

theorem evs_append (l : List Ev) (e : Ev) : evs (l ++ [e]) = evs l ++ e.cells := by simp [evs]

/-! ### closed facts of the program -/
theorem laidOut : laidOutB Try.prog = true := by kernel_rfl
theorem rowLoc : (23 : TypeId) < Try.prog.types.size := of_decide_eq_true (by kernel_rfl)
theorem wideLoc : (match Try.prog.underlying 23 with | some (.array _ _) | some (.struct _) => true | _ => false) = true := by rw [Try.underlying23]
theorem cellsLoc : Try.prog.cellsOf 23 = 3 := by kernel_rfl
theorem cellsInt : Try.prog.cellsOf 3 = 1 := by kernel_rfl
theorem keyLoc : Try.prog.keyType 23 = true := by kernel_rfl
theorem sizeTypes : ∃ n, Try.prog.types.size + 1 = n + 2 := by
  have h : decide (1 ≤ Try.prog.types.size) = true := by kernel_rfl
  have := of_decide_eq_true h
  exact ⟨Try.prog.types.size - 1, by omega⟩
/-- Places are keys. -/
theorem lawLoc : Keyed Try.prog 23 := Keyed.of_law (deep_law_laid laidOut (m := 2) (by omega) rowLoc (by kernel_rfl) wideLoc)
theorem zeroCell (w : World) : (zeroValue 64).run Try.prog w = .ok (.agg #[.int .u64 0]) w := by kernel_rfl
theorem wf_i {n : Int} (h : I64 n) : (Lit.int .i64 n).wf = true := WalkArith.wf_i64 h
theorem keyOf_loc {l : Lc} (h : l.wf) : ∃ x, keyOf Try.prog 23 l.val = some x := by
  have f : l.val.formed Try.prog 23 = true := by simp [Value.formed, Try.underlying23, cellsLoc]
  have e : ∀ n, Try.prog.keyLits (n + 2) 23 l.val.cells.toList = some [.int .i64 l.k, .int .i64 l.a, .int .i64 l.b] := by
    intro n
    simp [Program.keyLits, Value.cells, Try.underlying23, Try.underlying3, cellsLoc, cellsInt, wf_i h.1, wf_i h.2.1, wf_i h.2.2]
  obtain ⟨n, hn⟩ := sizeTypes
  refine ⟨.string (keyBytes [.int .i64 l.k, .int .i64 l.a, .int .i64 l.b]), ?_⟩
  unfold keyOf
  rw [Try.underlying23, hn, e]
  simp [keyLoc, f]

@[go_sem] theorem field_cell (a : Int) (w : World) : (Instr.field 64 (.agg #[.int .u64 a]) 0).run Try.prog w = .ok (.int .u64 a) w := by kernel_rfl

/-- Two places held against each other: laid into a walk as a fact, so that it does not part on each number. -/
theorem equal_loc (x y : Lc) (w : World) : (Op.equalIn 10000 23 (.agg #[.int .i64 x.k, .int .i64 x.a, .int .i64 x.b]) (.agg #[.int .i64 y.k, .int .i64 y.a, .int .i64 y.b])).run Try.prog w = .ok (decide (x = y)) w := by
  have e : decide (x = y) = (x.k == y.k && (x.a == y.a && x.b == y.b)) := by
    rw [Bool.eq_iff_iff]
    cases x; cases y
    simp
  rw [e]
  simp [go_sem]
  cases h1 : x.k == y.k <;> cases h2 : x.a == y.a <;> cases h3 : x.b == y.b <;> simp_all
theorem equal_loc_no {x y : Lc} (h : x ≠ y) (w : World) : (Op.equalIn 10000 23 (.agg #[.int .i64 x.k, .int .i64 x.a, .int .i64 x.b]) (.agg #[.int .i64 y.k, .int .i64 y.a, .int .i64 y.b])).run Try.prog w = .ok false w := by
  rw [equal_loc, decide_eq_false h]

/-! ### the memory -/
/-- What an entry of the map says: its number. -/
def intOne : List Value → Int
  | [.int .u64 a] => a
  | _ => 0
def numOf : Option Value → Int
  | some (.agg a) => intOne a.toList
  | _ => 0
/-- Block p of w is a memory: σ; its own blocks: fp. -/
def MemAt (w : World) (p : Nat) (fp : List Nat) (σ : MS) : Prop :=
  ∃ mb v n f, Row w p [.map (some mb), v] 61 ∧ MapIs Try.prog 23 w mb n f ∧ (∀ x y, f x = some y → ∃ a, y = .agg #[.int .u64 a] ∧ U64 a) ∧ (∀ l : Lc, l.wf → numOf (f l.val) = σ.num l) ∧
    w.ownsRow 0 33 5 v σ.log.length (evs σ.log) ∧ fp = p :: mb :: v.ownBlock.toList

section
variable {w w' : World} {p : Nat} {fp : List Nat} {σ : MS}
theorem MemAt.lt (h : MemAt w p fp σ) : ∀ k, k ∈ fp → k < w.heap.size := by
  obtain ⟨mb, v, n, f, h1, h2, _, _, h5, rfl⟩ := h
  intro k hk
  simp only [List.mem_cons, Option.mem_toList] at hk
  rcases hk with rfl | rfl | hk
  · exact h1.lt
  · exact h2.lt
  · exact (h5.lt k hk).2
theorem MemAt.head (h : MemAt w p fp σ) : p ∈ fp := by
  obtain ⟨mb, v, n, f, h1, h2, _, _, h5, rfl⟩ := h
  simp
theorem MemAt.chg {S : List Nat} (h : MemAt w p fp σ) (c : Chg S w w') (hn : ∀ k, k ∈ fp → k ∉ S) : MemAt w' p fp σ := by
  obtain ⟨mb, v, n, f, h1, h2, h3, h4, h5, rfl⟩ := h
  exact ⟨mb, v, n, f, h1.chg c (hn p (by simp)), h2.chg c (hn mb (by simp)), h3, h4, ownsRow_chg h5 c (fun k hk => hn k (by simp [hk])), rfl⟩
theorem MemAt.alloc (h : MemAt w p fp σ) (o : Obj) : MemAt (w.alloc o) p fp σ := h.chg (S := []) ((Chg.refl _ _).alloc o) (by simp)
theorem MemAt.num_u64 (h : MemAt w p fp σ) {l : Lc} (hl : l.wf) : U64 (σ.num l) := by
  obtain ⟨mb, v, n, f, _, _, h3, h4, _⟩ := h
  rw [← h4 l hl]
  cases hf : f l.val with
  | none => simp [numOf, U64]
  | some y =>
    obtain ⟨a, rfl, ha⟩ := h3 _ _ hf
    exact ha
end

set_option maxHeartbeats 400000 in
/-- Peek tells the place's number; it makes a block of its own. -/
theorem peek_any {w : World} {p : Nat} {fp : List Nat} {σ : MS} (h : MemAt w p fp σ) (l : Lc) (hl : l.wf) :
    Calls Try.prog 12 #[.pointer (some ⟨p, 0, none⟩), l.val] w fun e w' => e = .returned (.int .u64 (σ.num l)) ∧ Chg [] w w' := by
  obtain ⟨mb, v, n, f, h1, h2, h3, h4, h5, _⟩ := h
  obtain ⟨x, hx⟩ := keyOf_loc hl
  have e1 : ((f l.val).getD (.agg #[.int .u64 0])) = .agg #[.int .u64 (σ.num l)] := by
    rw [← h4 l hl]
    cases hf : f l.val with
    | none => rfl
    | some y =>
      obtain ⟨a, rfl, _⟩ := h3 _ _ hf
      rfl
  have hrun : ∀ k, (Instr.lookup 59 (.map (some mb)) (.agg #[.int .i64 l.k, .int .i64 l.a, .int .i64 l.b]) false).run Try.prog ((w.alloc (.cells #[.int .i64 l.k, .int .i64 l.a, .int .i64 l.b] 23)).drewN k) = .ok (.agg #[.int .u64 (σ.num l)]) ((w.alloc (.cells #[.int .i64 l.k, .int .i64 l.a, .int .i64 l.b] 23)).drewN k) := fun k => by
    have hm : MapIs Try.prog 23 ((w.alloc (.cells #[.int .i64 l.k, .int .i64 l.a, .int .i64 l.b] 23)).drewN k) mb n f := (h2.alloc _).kept rfl
    have := hm.lookup (t := 59) lawLoc Try.underlying59 (zeroCell _) hx
    rw [e1] at this
    exact this
  have c0 : w.cell? ⟨p, 0, none⟩ = some (.map (some mb)) := h1.cell rfl
  have lp := h1.lt
  clear h1 h2 h3 h4 h5 e1 hx hl
  unfold Lc.val
  go_enter Try.func12, Try.ntmps12
  go_wp2
  go_quiet (fail)
  go_wp2
  go_ret
  exact ⟨rfl, ((Chg.refl _ _).alloc _).drewN _⟩
end Go.Proofs.Ytcbipbnomgdklaa
