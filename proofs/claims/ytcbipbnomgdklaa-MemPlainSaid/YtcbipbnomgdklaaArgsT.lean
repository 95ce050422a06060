/- The arguments of this seat's laws, opened: numbers, places, uses, and slices of such. -/
import Derived.Test.YtcbipbnomgdklaaArgs
import Derived.Test.YtcbipbnomgdklaaMem
set_option linter.unusedSimpArgs false
set_option linter.unusedVariables false
namespace Go.Proofs.Ytcbipbnomgdklaa
open Go Go.RowKit Go.Maps Go.ChangeShapes Go.WideShapes Go.ChangeAt

theorem own : ownKnob Try.prog.godebug = none := by kernel_rfl
theorem i64_of {n : Int} (h : (Lit.int .i64 n).wf = true) : I64 n := bounds_i64 h
theorem u64_of {n : Int} (h : (Lit.int .u64 n).wf = true) : U64 n := bounds_u64 h

section
variable {H : Type} {enc : TypeId × Value → H} {w : World} {base : Nat} {spare : Nat → Bool} {held : Bool} {v : Value} {d : DataW H} {p : List MemPlace} {b0 : Nat}

theorem open_int (hv : Value.okWide Try.prog w .any b0 3 v) (h : DataW.Trod enc Try.prog w base spare held 3 v d p) : ∃ n, I64 n ∧ v = .int .i64 n := by
  obtain ⟨x, rfl, rfl, rfl, wx⟩ := ChangeShapes.open_int Try.underlying3 hv h
  exact ⟨x, i64_of wx, rfl⟩
theorem open_u64 (hv : Value.okWide Try.prog w .any b0 28 v) (h : DataW.Trod enc Try.prog w base spare held 28 v d p) : ∃ n, U64 n ∧ v = .int .u64 n := by
  obtain ⟨x, rfl, rfl, rfl, wx⟩ := ChangeShapes.open_int Try.underlying28 hv h
  exact ⟨x, u64_of wx, rfl⟩
theorem flatLoc : flatK Try.prog 3 23 = some [.i64, .i64, .i64] := by kernel_rfl
theorem open_loc (hv : Value.okWide Try.prog w .any b0 23 v) (h : DataW.Trod enc Try.prog w base spare held 23 v d p) : ∃ l : Lc, l.wf ∧ v = l.val := by
  obtain ⟨ns, h1, h2, h3⟩ := open_flat 3 flatLoc Try.underlying23 hv h
  match ns, h1 with
  | [a, b, c], _ => exact ⟨⟨a, b, c⟩, ⟨i64_of (h3 0 _ _ rfl rfl), i64_of (h3 1 _ _ rfl rfl), i64_of (h3 2 _ _ rfl rfl)⟩, h2⟩
end
end Go.Proofs.Ytcbipbnomgdklaa
