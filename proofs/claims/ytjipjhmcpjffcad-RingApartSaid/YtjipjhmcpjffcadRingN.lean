/- New rings: the package's and the reference's; both; the law's awake. -/
import Derived.Test.YtjipjhmcpjffcadRing
set_option linter.unusedSimpArgs false
set_option linter.unusedVariables false
set_option maxRecDepth 20000
namespace Go.Proofs.Ytjipjhmcpjffcad
open Go Go.RowKit Go.Maps
def cl8 (v : Int) : Nat := (min (max v 1) 8).toNat
theorem cl8_cases (v : Int) : (v < 1 ∧ cl8 v = 1) ∨ (v = 1 ∧ cl8 v = 1) ∨ (v = 2 ∧ cl8 v = 2) ∨ (v = 3 ∧ cl8 v = 3) ∨ (v = 4 ∧ cl8 v = 4) ∨ (v = 5 ∧ cl8 v = 5) ∨ (v = 6 ∧ cl8 v = 6) ∨ (v = 7 ∧ cl8 v = 7) ∨ (v = 8 ∧ cl8 v = 8) ∨ (8 < v ∧ cl8 v = 8) := by unfold cl8; omega
theorem cl8_b (v : Int) : 1 ≤ cl8 v ∧ cl8 v ≤ 8 := by unfold cl8; omega
theorem cl8_is (v : Int) : (cl8 v : Int) = min (max v 1) 8 := by unfold cl8; omega
def zeros (n : Nat) : List Pk := List.replicate n Pk.zero
theorem zeros_length (n : Nat) : (zeros n).length = n := by simp [zeros]
theorem Scope.last2 {S : List Nat} {w0 w : World} {As : List HA} {A B : HA} (h : Scope S w0 w (As ++ [A, B])) : Scope S w0 w (As ++ [B, A]) := by
  have h1 : Scope S w0 w ([A] ++ ([B] ++ As)) := by simpa using (Scope.swap (As := As) (Bs := [A, B]) (Cs := []) (by simpa using h))
  have h2 := h1.swap
  simpa using (Scope.swap (As := [B, A]) (Bs := As) (Cs := []) (by simpa using h2))
/-- A new ring. -/
def NewR (S : List Nat) (w0 : World) (As : List HA) (m : Nat) (obj : Int) (n : Nat) (e : Ending) (w' : World) : Prop := ∃ p g, e = .returned (ptr p) ∧ Scope S w0 w' (As ++ [rb p m obj g n, gb g (zeros n)])
theorem NewR.mk {S : List Nat} {w0 w : World} {As : List HA} {m : Nat} {obj : Int} {n : Nat} (h : Scope S w0 w As) :
    NewR S w0 As m obj n (.returned (ptr (w.heap.size + 1))) ((w.alloc (.cells (pks (zeros n)).toArray 44)).alloc (.cells #[ptr m, .int .i64 obj, .slice (some ⟨w.heap.size, 0, none⟩) n n] 75)) := by
  have h1 := h.box (pks (zeros n)) 44
  have h2 := h1.box [ptr m, .int .i64 obj, .slice (some ⟨w.heap.size, 0, none⟩) n n] 75
  have e : (w.alloc (.cells (pks (zeros n)).toArray 44)).heap.size = w.heap.size + 1 := by first | rfl | simp
  rw [e] at h2
  exact ⟨_, _, rfl, Scope.last2 (by simpa using h2)⟩
@[reducible] def rrb (q x : Nat) (obj : Int) (g n : Nat) : HA := box q [ptr x, .int .i64 obj, .int .i64 n, .slice (some ⟨g, 0, none⟩) n n] 65
def NewRR (S : List Nat) (w0 : World) (As : List HA) (x : Nat) (obj : Int) (n : Nat) (e : Ending) (w' : World) : Prop := ∃ q g, e = .returned (ptr q) ∧ Scope S w0 w' (As ++ [rrb q x obj g n, gb g (zeros n)])
theorem NewRR.mk {S : List Nat} {w0 w : World} {As : List HA} {x : Nat} {obj : Int} {n : Nat} (h : Scope S w0 w As) :
    NewRR S w0 As x obj n (.returned (ptr (w.heap.size + 1))) ((w.alloc (.cells (pks (zeros n)).toArray 44)).alloc (.cells #[ptr x, .int .i64 obj, .int .i64 n, .slice (some ⟨w.heap.size, 0, none⟩) n n] 65)) := by
  have h1 := h.box (pks (zeros n)) 44
  have h2 := h1.box [ptr x, .int .i64 obj, .int .i64 n, .slice (some ⟨w.heap.size, 0, none⟩) n n] 65
  have e : (w.alloc (.cells (pks (zeros n)).toArray 44)).heap.size = w.heap.size + 1 := by first | rfl | simp
  rw [e] at h2
  exact ⟨_, _, rfl, Scope.last2 (by simpa using h2)⟩

theorem rnew_scope {S : List Nat} {w0 w : World} {As : List HA} (h : Scope S w0 w As) (m : Nat) (obj most : Int) : Calls Try.prog 10 #[ptr m, .int .i64 obj, .int .i64 most] w (NewR S w0 As m obj (cl8 most)) := by
  have H0 := Lib.hid h
  clear h
  rcases cl8_cases most with ⟨a, b⟩ | ⟨rfl, b⟩ | ⟨rfl, b⟩ | ⟨rfl, b⟩ | ⟨rfl, b⟩ | ⟨rfl, b⟩ | ⟨rfl, b⟩ | ⟨rfl, b⟩ | ⟨rfl, b⟩ | ⟨a, b⟩
  · rw [b]
    clear b
    have hmk : ∀ w, (Instr.makeSlice 41 (.int .i64 1) (.int .i64 1)).run Try.prog w = .ok (.slice (some ⟨w.heap.size, 0, none⟩) 1 1) (w.alloc (.cells (pks (zeros 1)).toArray 44)) := fun _ => by kernel_rfl
    go_enter Try.func10, Try.ntmps10
    go_wp2
    all_goals first | (exfalso; omega) | (go_ret; exact NewR.mk H0.out)
  · rw [b]
    clear b
    have hmk : ∀ w, (Instr.makeSlice 41 (.int .i64 1) (.int .i64 1)).run Try.prog w = .ok (.slice (some ⟨w.heap.size, 0, none⟩) 1 1) (w.alloc (.cells (pks (zeros 1)).toArray 44)) := fun _ => by kernel_rfl
    go_enter Try.func10, Try.ntmps10
    go_wp2
    go_ret
    exact NewR.mk H0.out
  · rw [b]
    clear b
    have hmk : ∀ w, (Instr.makeSlice 41 (.int .i64 2) (.int .i64 2)).run Try.prog w = .ok (.slice (some ⟨w.heap.size, 0, none⟩) 2 2) (w.alloc (.cells (pks (zeros 2)).toArray 44)) := fun _ => by kernel_rfl
    go_enter Try.func10, Try.ntmps10
    go_wp2
    go_ret
    exact NewR.mk H0.out
  · rw [b]
    clear b
    have hmk : ∀ w, (Instr.makeSlice 41 (.int .i64 3) (.int .i64 3)).run Try.prog w = .ok (.slice (some ⟨w.heap.size, 0, none⟩) 3 3) (w.alloc (.cells (pks (zeros 3)).toArray 44)) := fun _ => by kernel_rfl
    go_enter Try.func10, Try.ntmps10
    go_wp2
    go_ret
    exact NewR.mk H0.out
  · rw [b]
    clear b
    have hmk : ∀ w, (Instr.makeSlice 41 (.int .i64 4) (.int .i64 4)).run Try.prog w = .ok (.slice (some ⟨w.heap.size, 0, none⟩) 4 4) (w.alloc (.cells (pks (zeros 4)).toArray 44)) := fun _ => by kernel_rfl
    go_enter Try.func10, Try.ntmps10
    go_wp2
    go_ret
    exact NewR.mk H0.out
  · rw [b]
    clear b
    have hmk : ∀ w, (Instr.makeSlice 41 (.int .i64 5) (.int .i64 5)).run Try.prog w = .ok (.slice (some ⟨w.heap.size, 0, none⟩) 5 5) (w.alloc (.cells (pks (zeros 5)).toArray 44)) := fun _ => by kernel_rfl
    go_enter Try.func10, Try.ntmps10
    go_wp2
    go_ret
    exact NewR.mk H0.out
  · rw [b]
    clear b
    have hmk : ∀ w, (Instr.makeSlice 41 (.int .i64 6) (.int .i64 6)).run Try.prog w = .ok (.slice (some ⟨w.heap.size, 0, none⟩) 6 6) (w.alloc (.cells (pks (zeros 6)).toArray 44)) := fun _ => by kernel_rfl
    go_enter Try.func10, Try.ntmps10
    go_wp2
    go_ret
    exact NewR.mk H0.out
  · rw [b]
    clear b
    have hmk : ∀ w, (Instr.makeSlice 41 (.int .i64 7) (.int .i64 7)).run Try.prog w = .ok (.slice (some ⟨w.heap.size, 0, none⟩) 7 7) (w.alloc (.cells (pks (zeros 7)).toArray 44)) := fun _ => by kernel_rfl
    go_enter Try.func10, Try.ntmps10
    go_wp2
    go_ret
    exact NewR.mk H0.out
  · rw [b]
    clear b
    have hmk : ∀ w, (Instr.makeSlice 41 (.int .i64 8) (.int .i64 8)).run Try.prog w = .ok (.slice (some ⟨w.heap.size, 0, none⟩) 8 8) (w.alloc (.cells (pks (zeros 8)).toArray 44)) := fun _ => by kernel_rfl
    go_enter Try.func10, Try.ntmps10
    go_wp2
    go_ret
    exact NewR.mk H0.out
  · rw [b]
    clear b
    have hmk : ∀ w, (Instr.makeSlice 41 (.int .i64 8) (.int .i64 8)).run Try.prog w = .ok (.slice (some ⟨w.heap.size, 0, none⟩) 8 8) (w.alloc (.cells (pks (zeros 8)).toArray 44)) := fun _ => by kernel_rfl
    go_enter Try.func10, Try.ntmps10
    go_wp2
    all_goals first | (exfalso; omega) | (go_ret; exact NewR.mk H0.out)

theorem rrnew_scope {S : List Nat} {w0 w : World} {As : List HA} (h : Scope S w0 w As) (x : Nat) (obj most : Int) : Calls Try.prog 28 #[ptr x, .int .i64 obj, .int .i64 most] w (NewRR S w0 As x obj (cl8 most)) := by
  have H0 := Lib.hid h
  clear h
  rcases cl8_cases most with ⟨a, b⟩ | ⟨rfl, b⟩ | ⟨rfl, b⟩ | ⟨rfl, b⟩ | ⟨rfl, b⟩ | ⟨rfl, b⟩ | ⟨rfl, b⟩ | ⟨rfl, b⟩ | ⟨rfl, b⟩ | ⟨a, b⟩
  · rw [b]
    clear b
    have hmk : ∀ w, (Instr.makeSlice 41 (.int .i64 1) (.int .i64 1)).run Try.prog w = .ok (.slice (some ⟨w.heap.size, 0, none⟩) 1 1) (w.alloc (.cells (pks (zeros 1)).toArray 44)) := fun _ => by kernel_rfl
    go_enter Try.func28, Try.ntmps28
    go_wp2
    all_goals first | (exfalso; omega) | (go_ret; exact NewRR.mk H0.out)
  · rw [b]
    clear b
    have hmk : ∀ w, (Instr.makeSlice 41 (.int .i64 1) (.int .i64 1)).run Try.prog w = .ok (.slice (some ⟨w.heap.size, 0, none⟩) 1 1) (w.alloc (.cells (pks (zeros 1)).toArray 44)) := fun _ => by kernel_rfl
    go_enter Try.func28, Try.ntmps28
    go_wp2
    go_ret
    exact NewRR.mk H0.out
  · rw [b]
    clear b
    have hmk : ∀ w, (Instr.makeSlice 41 (.int .i64 2) (.int .i64 2)).run Try.prog w = .ok (.slice (some ⟨w.heap.size, 0, none⟩) 2 2) (w.alloc (.cells (pks (zeros 2)).toArray 44)) := fun _ => by kernel_rfl
    go_enter Try.func28, Try.ntmps28
    go_wp2
    go_ret
    exact NewRR.mk H0.out
  · rw [b]
    clear b
    have hmk : ∀ w, (Instr.makeSlice 41 (.int .i64 3) (.int .i64 3)).run Try.prog w = .ok (.slice (some ⟨w.heap.size, 0, none⟩) 3 3) (w.alloc (.cells (pks (zeros 3)).toArray 44)) := fun _ => by kernel_rfl
    go_enter Try.func28, Try.ntmps28
    go_wp2
    go_ret
    exact NewRR.mk H0.out
  · rw [b]
    clear b
    have hmk : ∀ w, (Instr.makeSlice 41 (.int .i64 4) (.int .i64 4)).run Try.prog w = .ok (.slice (some ⟨w.heap.size, 0, none⟩) 4 4) (w.alloc (.cells (pks (zeros 4)).toArray 44)) := fun _ => by kernel_rfl
    go_enter Try.func28, Try.ntmps28
    go_wp2
    go_ret
    exact NewRR.mk H0.out
  · rw [b]
    clear b
    have hmk : ∀ w, (Instr.makeSlice 41 (.int .i64 5) (.int .i64 5)).run Try.prog w = .ok (.slice (some ⟨w.heap.size, 0, none⟩) 5 5) (w.alloc (.cells (pks (zeros 5)).toArray 44)) := fun _ => by kernel_rfl
    go_enter Try.func28, Try.ntmps28
    go_wp2
    go_ret
    exact NewRR.mk H0.out
  · rw [b]
    clear b
    have hmk : ∀ w, (Instr.makeSlice 41 (.int .i64 6) (.int .i64 6)).run Try.prog w = .ok (.slice (some ⟨w.heap.size, 0, none⟩) 6 6) (w.alloc (.cells (pks (zeros 6)).toArray 44)) := fun _ => by kernel_rfl
    go_enter Try.func28, Try.ntmps28
    go_wp2
    go_ret
    exact NewRR.mk H0.out
  · rw [b]
    clear b
    have hmk : ∀ w, (Instr.makeSlice 41 (.int .i64 7) (.int .i64 7)).run Try.prog w = .ok (.slice (some ⟨w.heap.size, 0, none⟩) 7 7) (w.alloc (.cells (pks (zeros 7)).toArray 44)) := fun _ => by kernel_rfl
    go_enter Try.func28, Try.ntmps28
    go_wp2
    go_ret
    exact NewRR.mk H0.out
  · rw [b]
    clear b
    have hmk : ∀ w, (Instr.makeSlice 41 (.int .i64 8) (.int .i64 8)).run Try.prog w = .ok (.slice (some ⟨w.heap.size, 0, none⟩) 8 8) (w.alloc (.cells (pks (zeros 8)).toArray 44)) := fun _ => by kernel_rfl
    go_enter Try.func28, Try.ntmps28
    go_wp2
    go_ret
    exact NewRR.mk H0.out
  · rw [b]
    clear b
    have hmk : ∀ w, (Instr.makeSlice 41 (.int .i64 8) (.int .i64 8)).run Try.prog w = .ok (.slice (some ⟨w.heap.size, 0, none⟩) 8 8) (w.alloc (.cells (pks (zeros 8)).toArray 44)) := fun _ => by kernel_rfl
    go_enter Try.func28, Try.ntmps28
    go_wp2
    all_goals first | (exfalso; omega) | (go_ret; exact NewRR.mk H0.out)

end Go.Proofs.Ytjipjhmcpjffcad
