/- Swap, Read, Write, Len, New, Events of package mem. -/
import Derived.Test.YtcbipbnomgdklaaMemA
set_option linter.unusedSimpArgs false
set_option linter.unusedVariables false
namespace Go.Proofs.Ytcbipbnomgdklaa
open Go Go.RowKit Go.Maps

def MS.swap (σ : MS) (who : Int) (l : Lc) (was now : Int) : MS := if σ.num l = was then (σ.put who 3 l).set l now else σ.put who 4 l

set_option maxHeartbeats 400000 in
theorem swap_no {w : World} {p : Nat} {fp : List Nat} {σ : MS} (h : MemAt w p fp σ) (who : Int) (l : Lc) (hl : l.wf) (was now : Int) (hne : (σ.num l != was) = true) (hn : σ.log.length ≤ 1000000) :
    Calls Try.prog 11 #[.pointer (some ⟨p, 0, none⟩), .int .i64 who, l.val, .int .u64 was, .int .u64 now] w fun e w' => e = .returned (.bool false) ∧ Left w p fp (σ.put who 4 l) w' := by
  have rb := Row.new w [.int .i64 l.k, .int .i64 l.a, .int .i64 l.b] 23
  have H := Lib.hid h; have Rb := Lib.hid rb
  clear h rb
  unfold Lc.val
  go_enter Try.func11, Try.ntmps11
  go_wp2_with fail
  refine (peek_any (H.out.alloc _) l hl).mono ?_
  rintro e w1 ⟨rfl, hc⟩
  have r1 := Rb.out.chg hc (by simp)
  have e0 := r1.cell (j := 0) rfl; have e1 := r1.cell (j := 1) rfl; have e2 := r1.cell (j := 2) rfl
  have C1 := Lib.hid hc
  clear r1 hc
  go_wp2_with fail
  refine (note_any ((H.out.alloc _).chg C1.out (by simp)) who 4 l hn).mono ?_
  rintro e w2 ⟨rfl, hL⟩
  have L := Lib.hid hL
  clear hL
  go_wp2
  go_ret
  exact ⟨rfl, Left.chain (((Chg.refl fp w).alloc _).quiet C1.out) (Own.refl _ _) L.out⟩

set_option maxHeartbeats 400000 in
theorem swap_yes {w : World} {p : Nat} {fp : List Nat} {σ : MS} (h : MemAt w p fp σ) (who : Int) (l : Lc) (hl : l.wf) (now : Int) (hx : U64 now) (hn : σ.log.length ≤ 1000000) :
    Calls Try.prog 11 #[.pointer (some ⟨p, 0, none⟩), .int .i64 who, l.val, .int .u64 (σ.num l), .int .u64 now] w fun e w' => e = .returned (.bool true) ∧ Left w p fp ((σ.put who 3 l).set l now) w' := by
  have rb := Row.new w [.int .i64 l.k, .int .i64 l.a, .int .i64 l.b] 23
  have H := Lib.hid h; have Rb := Lib.hid rb
  clear h rb
  unfold Lc.val
  go_enter Try.func11, Try.ntmps11
  go_wp2_with fail
  refine (peek_any (H.out.alloc _) l hl).mono ?_
  rintro e w1 ⟨rfl, hc⟩
  have r1 := Rb.out.chg hc (by simp)
  have e0 := r1.cell (j := 0) rfl; have e1 := r1.cell (j := 1) rfl; have e2 := r1.cell (j := 2) rfl
  have C1 := Lib.hid hc
  clear r1 hc
  go_wp2_with fail
  refine (turn_any ((H.out.alloc _).chg C1.out (by simp)) who l hl now hx hn).mono ?_
  rintro e w2 ⟨rfl, hL⟩
  have L := Lib.hid hL
  clear hL
  go_wp2
  go_ret
  exact ⟨rfl, Left.chain (((Chg.refl fp w).alloc _).quiet C1.out) (Own.refl _ _) L.out⟩

/-- Swap: done just if the number is what it was told to be. -/
theorem swap_any {w : World} {p : Nat} {fp : List Nat} {σ : MS} (h : MemAt w p fp σ) (who : Int) (l : Lc) (hl : l.wf) (was now : Int) (hx : U64 now) (hn : σ.log.length ≤ 1000000) :
    Calls Try.prog 11 #[.pointer (some ⟨p, 0, none⟩), .int .i64 who, l.val, .int .u64 was, .int .u64 now] w fun e w' => e = .returned (.bool (decide (σ.num l = was))) ∧ Left w p fp (σ.swap who l was now) w' := by
  unfold MS.swap
  by_cases e : σ.num l = was
  · subst e
    simp only [if_true, decide_true]
    exact swap_yes h who l hl now hx hn
  · simp only [if_neg e, decide_eq_false e]
    exact swap_no h who l hl was now (by simpa using e) hn

set_option maxHeartbeats 400000 in
theorem read_any {w : World} {p : Nat} {fp : List Nat} {σ : MS} (h : MemAt w p fp σ) (who : Int) (l : Lc) (hn : σ.log.length ≤ 1000000) :
    Calls Try.prog 22 #[.pointer (some ⟨p, 0, none⟩), .int .i64 who, l.val] w fun e w' => e = .returned (.tuple #[]) ∧ Left w p fp (σ.put who 5 l) w' := by
  have H := Lib.hid h
  clear h
  unfold Lc.val
  go_enter Try.func22, Try.ntmps22
  go_wp2_with fail
  refine (note_any (H.out.alloc _) who 5 l hn).mono ?_
  rintro e w1 ⟨rfl, hL⟩
  have L := Lib.hid hL
  clear hL
  go_wp2
  go_end0
  exact ⟨rfl, Left.from_alloc L.out⟩

set_option maxHeartbeats 400000 in
theorem write_any {w : World} {p : Nat} {fp : List Nat} {σ : MS} (h : MemAt w p fp σ) (who : Int) (l : Lc) (hn : σ.log.length ≤ 1000000) :
    Calls Try.prog 23 #[.pointer (some ⟨p, 0, none⟩), .int .i64 who, l.val] w fun e w' => e = .returned (.tuple #[]) ∧ Left w p fp (σ.put who 6 l) w' := by
  have H := Lib.hid h
  clear h
  unfold Lc.val
  go_enter Try.func23, Try.ntmps23
  go_wp2_with fail
  refine (note_any (H.out.alloc _) who 6 l hn).mono ?_
  rintro e w1 ⟨rfl, hL⟩
  have L := Lib.hid hL
  clear hL
  go_wp2
  go_end0
  exact ⟨rfl, Left.from_alloc L.out⟩

/-- Len tells how many events there are; nothing turns. -/
theorem len_any {w : World} {p : Nat} {fp : List Nat} {σ : MS} (h : MemAt w p fp σ) (hn : σ.log.length ≤ 1000000) :
    Calls Try.prog 19 #[.pointer (some ⟨p, 0, none⟩)] w fun e w' => e = .returned (.int .i64 σ.log.length) ∧ w = w' := by
  obtain ⟨mb, v, n, f, h1, h2, h3, h4, h5, _⟩ := h
  rcases ownsRow_form h5 with ⟨rfl, e0⟩ | ⟨g, cap, rfl, hg, hc, hm⟩
  · have c0 : w.cell? ⟨p, 1, none⟩ = some (.slice none 0 0) := h1.cell rfl
    rw [e0]
    clear h1 h2 h3 h4 h5 e0
    go_enter Try.func19, Try.ntmps19
    go_wp2
    go_ret
    exact ⟨rfl, rfl⟩
  · have c0 : w.cell? ⟨p, 1, none⟩ = some (.slice (some ⟨g, 0, none⟩) σ.log.length cap) := h1.cell rfl
    clear h1 h2 h3 h4 h5
    go_enter Try.func19, Try.ntmps19
    go_wp2
    go_ret
    exact ⟨rfl, rfl⟩

/-- The memory of nobody: no event, each number 0. -/
def MS.zero : MS := ⟨[], fun _ => 0⟩

/-- Behind New: a memory in which nothing was done, in blocks that are new. -/
def Made (w : World) (p : Nat) (w' : World) : Prop := MemAt w' p [p, w.heap.size] MS.zero ∧ w'.heap.size = w.heap.size + 2 ∧ p = w.heap.size + 1 ∧ Chg [] w w'
theorem new_any (w : World) : Calls Try.prog 8 #[] w fun e w' => e = .returned (.pointer (some ⟨w.heap.size + 1, 0, none⟩)) ∧ Made w (w.heap.size + 1) w' := by
  have hmm := @run_makeMap Try.prog
  go_enter Try.func8, Try.ntmps8
  go_wp2
  go_ret
  refine ⟨rfl, ⟨w.heap.size, .slice none 0 0, 0, fun _ => none, ?_, (MapIs.made _ _ w).alloc _, by simp, fun _ _ => rfl, World.ownsRow_nil _ _ _ _, by simp [Value.ownBlock]⟩, by simp, rfl, ((Chg.refl _ _).alloc _).alloc _⟩
  have := Row.new (w.alloc (.map #[] 0)) [.map (some w.heap.size), .slice none 0 0] 61
  simpa using this
end Go.Proofs.Ytcbipbnomgdklaa
