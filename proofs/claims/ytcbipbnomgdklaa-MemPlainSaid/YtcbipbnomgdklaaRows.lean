/-
  No cell of these rows narrows 'for every input' (looked for: loops, veiled, ifaces, maps, wideKeys, modest, calm, conditions, laid).
  DERIVED. THE GIVEN ROWS OF THIS SEAT. 5 by the template 'for every input the law returns true; each argument reads behind the call as it read before'; 0 by the template 'total and deterministic' (their statements: YtcbipbnomgdklaaTotals.lean).
  GIVEN WITH THE SEED: the statements are not yours to turn. If you find one false, say at which input.
  Laid BY PROGRAM, IN A SANDBOX (cutbox-rows.mjs): the forced cells as the released guide's own fill.sh prints them over the translation 23cbdacea05df472… (all of the seat's roots in one cut). By AI agents, Wed Nov 11 2026. No macro, syntax, notation, axiom, sorry.
-/
import Derived.Test.YtcbipbnomgdklaaChecked
import GoSem.Claim
import GoSem.ClaimJoined
import GoSem.ClaimMapViews
import Derived.JoinedTies
import Derived.KernelRfl
namespace Go.Proofs.Ytcbipbnomgdklaa
/- THE CELL 'sum', in the pinned program and in every row, IS THE sha256 OF THE DUMP (.gsa) THAT YtcbipbnomgdklaaProg.lean LOADS. Nothing in Lean hashes anything: it is a label: what it is worth is what the hold of that sum in a sandbox is worth. -/
noncomputable def Try.pinned : Pinned := { name := "ytcbipbnomgdklaa", sum := "23cbdacea05df47268219d5d8a01dfa141aa8621b39359ab7399db3841ab82b5", checked := Try.checked }
namespace Rows
def none {H : Type} : Left H := { results := [], args := [] }

/-- 'weighbridgelaw16.MemSwaps': WHATEVER THE INPUT: true; the input reads as it did. -/
def memSwapsSpec : ChangeSpec := { name := "memSwaps", fn := fun _ => fun
  | [d1, d2, d3] => { results := [.lit (.bool true)], args := [d1, d2, d3] }
  | _ => none }
def memSwapsRow : OpenClaim := { program := "ytcbipbnomgdklaa", sum := "23cbdacea05df47268219d5d8a01dfa141aa8621b39359ab7399db3841ab82b5", func := "weighbridge/weighbridgelaw16.MemSwaps", spec := "memSwaps", unfollowed := true, recurses := true, plainKeys := false, apart := false }
def MemSwapsSaid : Prop := memSwapsRow.holds Try.pinned (OpenSpec.ofChange memSwapsSpec)

/-- ITS FALSE NEIGHBOUR: 'it returns false'. Refute it at one input. -/
def memSwapsWrong : ChangeSpec := { name := "memSwaps", fn := fun _ => fun
  | [d1, d2, d3] => { results := [.lit (.bool false)], args := [d1, d2, d3] }
  | _ => none }
def MemSwapsWrongFalsely : Prop := memSwapsRow.holds Try.pinned (OpenSpec.ofChange memSwapsWrong)

/-- 'weighbridgelaw16.MemRaw': WHATEVER THE INPUT: true; the input reads as it did. -/
def memRawSpec : ChangeSpec := { name := "memRaw", fn := fun _ => fun
  | [d1, d2, d3, d4, d5] => { results := [.lit (.bool true)], args := [d1, d2, d3, d4, d5] }
  | _ => none }
def memRawRow : OpenClaim := { program := "ytcbipbnomgdklaa", sum := "23cbdacea05df47268219d5d8a01dfa141aa8621b39359ab7399db3841ab82b5", func := "weighbridge/weighbridgelaw16.MemRaw", spec := "memRaw", unfollowed := true, recurses := true, plainKeys := false, apart := false }
def MemRawSaid : Prop := memRawRow.holds Try.pinned (OpenSpec.ofChange memRawSpec)

/-- ITS FALSE NEIGHBOUR: 'it returns false'. Refute it at one input. -/
def memRawWrong : ChangeSpec := { name := "memRaw", fn := fun _ => fun
  | [d1, d2, d3, d4, d5] => { results := [.lit (.bool false)], args := [d1, d2, d3, d4, d5] }
  | _ => none }
def MemRawWrongFalsely : Prop := memRawRow.holds Try.pinned (OpenSpec.ofChange memRawWrong)

/-- 'weighbridgelaw16.MemPlays': WHATEVER THE INPUT: true; the input reads as it did. -/
def memPlaysSpec : ChangeSpec := { name := "memPlays", fn := fun _ => fun
  | [d] => { results := [.lit (.bool true)], args := [d] }
  | _ => none }
def memPlaysRow : OpenClaim := { program := "ytcbipbnomgdklaa", sum := "23cbdacea05df47268219d5d8a01dfa141aa8621b39359ab7399db3841ab82b5", func := "weighbridge/weighbridgelaw16.MemPlays", spec := "memPlays", unfollowed := true, recurses := true, plainKeys := false, apart := false }
def MemPlaysSaid : Prop := memPlaysRow.holds Try.pinned (OpenSpec.ofChange memPlaysSpec)

/-- ITS FALSE NEIGHBOUR: 'it returns false'. Refute it at one input. -/
def memPlaysWrong : ChangeSpec := { name := "memPlays", fn := fun _ => fun
  | [d] => { results := [.lit (.bool false)], args := [d] }
  | _ => none }
def MemPlaysWrongFalsely : Prop := memPlaysRow.holds Try.pinned (OpenSpec.ofChange memPlaysWrong)

/-- 'weighbridgelaw16.MemPlain': WHATEVER THE INPUT: true; the input reads as it did. -/
def memPlainSpec : ChangeSpec := { name := "memPlain", fn := fun _ => fun
  | [d1, d2] => { results := [.lit (.bool true)], args := [d1, d2] }
  | _ => none }
def memPlainRow : OpenClaim := { program := "ytcbipbnomgdklaa", sum := "23cbdacea05df47268219d5d8a01dfa141aa8621b39359ab7399db3841ab82b5", func := "weighbridge/weighbridgelaw16.MemPlain", spec := "memPlain", unfollowed := true, recurses := true, plainKeys := false, apart := false }
def MemPlainSaid : Prop := memPlainRow.holds Try.pinned (OpenSpec.ofChange memPlainSpec)

/-- ITS FALSE NEIGHBOUR: 'it returns false'. Refute it at one input. -/
def memPlainWrong : ChangeSpec := { name := "memPlain", fn := fun _ => fun
  | [d1, d2] => { results := [.lit (.bool false)], args := [d1, d2] }
  | _ => none }
def MemPlainWrongFalsely : Prop := memPlainRow.holds Try.pinned (OpenSpec.ofChange memPlainWrong)

/-- 'weighbridgelaw16.MemApart': WHATEVER THE INPUT: true; the input reads as it did. -/
def memApartSpec : ChangeSpec := { name := "memApart", fn := fun _ => fun
  | [d1, d2] => { results := [.lit (.bool true)], args := [d1, d2] }
  | _ => none }
def memApartRow : OpenClaim := { program := "ytcbipbnomgdklaa", sum := "23cbdacea05df47268219d5d8a01dfa141aa8621b39359ab7399db3841ab82b5", func := "weighbridge/weighbridgelaw16.MemApart", spec := "memApart", unfollowed := true, recurses := true, plainKeys := false, apart := false }
def MemApartSaid : Prop := memApartRow.holds Try.pinned (OpenSpec.ofChange memApartSpec)

/-- ITS FALSE NEIGHBOUR: 'it returns false'. Refute it at one input. -/
def memApartWrong : ChangeSpec := { name := "memApart", fn := fun _ => fun
  | [d1, d2] => { results := [.lit (.bool false)], args := [d1, d2] }
  | _ => none }
def MemApartWrongFalsely : Prop := memApartRow.holds Try.pinned (OpenSpec.ofChange memApartWrong)

/- THE SECOND FORM. 'bulk': how many values and letters a reading holds, each counted each time it is reached (what is shared counts as often as it is met; a slice's spare places count too). A statement '..UptoSaid' is the law's where the arguments, and the package variables that the reading takes, are together of bulk at most 1048576: NARROWER than '..Said'. Prove '..Said' where nothing that the law and all that it calls make is longer than what came in: it says more and counts as full. Else prove '..UptoSaid'. A law counts once. -/
mutual
def uptoBulk {H : Type} : DataW H → Nat
  | .lit (.string bytes) => bytes.length + 1
  | .lit _ => 1
  | .nil => 1
  | .ptr d => uptoBulk d + 1
  | .slice elems spare => uptoBulkAll elems + uptoBulkAll spare + 1
  | .agg parts => uptoBulkAll parts + 1
  | .iface _ d => uptoBulk d + 1
  | .map entries => uptoBulkEntries entries + 1
  | .held _ => 1
def uptoBulkAll {H : Type} : List (DataW H) → Nat
  | [] => 0
  | d :: r => uptoBulk d + uptoBulkAll r
def uptoBulkEntries {H : Type} : List (Lit × DataW H) → Nat
  | [] => 0
  | x :: r => uptoBulkEntry x + uptoBulkEntries r
def uptoBulkEntry {H : Type} : Lit × DataW H → Nat
  | (.string bytes, d) => bytes.length + uptoBulk d + 1
  | (_, d) => uptoBulk d + 1
 end
def uptoSmall : (H : Type) → List (DataW H) → Bool := fun _ ds => decide (uptoBulkAll ds ≤ 1048576)
def OpenSpec.upto (s : _root_.Go.ChangeSpec) : _root_.Go.OpenSpec := { _root_.Go.OpenSpec.ofChange s with cond := some uptoSmall }

/-- 'weighbridgelaw16.MemSwaps', WHERE WHAT IT READS IS OF BULK AT MOST 1048576: true; the input reads as it did. -/
def memSwapsUptoRow : OpenClaim := { program := "ytcbipbnomgdklaa", sum := "23cbdacea05df47268219d5d8a01dfa141aa8621b39359ab7399db3841ab82b5", func := "weighbridge/weighbridgelaw16.MemSwaps", spec := "memSwaps", unfollowed := true, recurses := true, plainKeys := false, apart := false, narrowed := true }
def MemSwapsUptoSaid : Prop := memSwapsUptoRow.holds Try.pinned (OpenSpec.upto memSwapsSpec)

/-- 'weighbridgelaw16.MemRaw', WHERE WHAT IT READS IS OF BULK AT MOST 1048576: true; the input reads as it did. -/
def memRawUptoRow : OpenClaim := { program := "ytcbipbnomgdklaa", sum := "23cbdacea05df47268219d5d8a01dfa141aa8621b39359ab7399db3841ab82b5", func := "weighbridge/weighbridgelaw16.MemRaw", spec := "memRaw", unfollowed := true, recurses := true, plainKeys := false, apart := false, narrowed := true }
def MemRawUptoSaid : Prop := memRawUptoRow.holds Try.pinned (OpenSpec.upto memRawSpec)

/-- 'weighbridgelaw16.MemPlays', WHERE WHAT IT READS IS OF BULK AT MOST 1048576: true; the input reads as it did. -/
def memPlaysUptoRow : OpenClaim := { program := "ytcbipbnomgdklaa", sum := "23cbdacea05df47268219d5d8a01dfa141aa8621b39359ab7399db3841ab82b5", func := "weighbridge/weighbridgelaw16.MemPlays", spec := "memPlays", unfollowed := true, recurses := true, plainKeys := false, apart := false, narrowed := true }
def MemPlaysUptoSaid : Prop := memPlaysUptoRow.holds Try.pinned (OpenSpec.upto memPlaysSpec)

/-- 'weighbridgelaw16.MemPlain', WHERE WHAT IT READS IS OF BULK AT MOST 1048576: true; the input reads as it did. -/
def memPlainUptoRow : OpenClaim := { program := "ytcbipbnomgdklaa", sum := "23cbdacea05df47268219d5d8a01dfa141aa8621b39359ab7399db3841ab82b5", func := "weighbridge/weighbridgelaw16.MemPlain", spec := "memPlain", unfollowed := true, recurses := true, plainKeys := false, apart := false, narrowed := true }
def MemPlainUptoSaid : Prop := memPlainUptoRow.holds Try.pinned (OpenSpec.upto memPlainSpec)

/-- 'weighbridgelaw16.MemApart', WHERE WHAT IT READS IS OF BULK AT MOST 1048576: true; the input reads as it did. -/
def memApartUptoRow : OpenClaim := { program := "ytcbipbnomgdklaa", sum := "23cbdacea05df47268219d5d8a01dfa141aa8621b39359ab7399db3841ab82b5", func := "weighbridge/weighbridgelaw16.MemApart", spec := "memApart", unfollowed := true, recurses := true, plainKeys := false, apart := false, narrowed := true }
def MemApartUptoSaid : Prop := memApartUptoRow.holds Try.pinned (OpenSpec.upto memApartSpec)

end Rows
end Go.Proofs.Ytcbipbnomgdklaa
