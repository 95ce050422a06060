/-
  No cell of these rows narrows 'for every input' (looked for: loops, veiled, ifaces, maps, wideKeys, modest, calm, conditions, laid).
  DERIVED. THE GIVEN ROWS OF THIS SEAT. 6 by the template 'for every input the law returns true; each argument reads behind the call as it read before'; 0 by the template 'total and deterministic' (their statements: YtjipjhmcpjffcabTotals.lean).
  GIVEN WITH THE SEED: the statements are not yours to turn. If you find one false, say at which input.
  Laid BY PROGRAM, IN A SANDBOX (cutbox-rows.mjs): the forced cells as the released guide's own fill.sh prints them over the translation ff855333bed7791d… (all of the seat's roots in one cut). By AI agents, Wed Nov 11 2026. No macro, syntax, notation, axiom, sorry.
-/
import Derived.Test.YtjipjhmcpjffcabChecked
import GoSem.Claim
import GoSem.ClaimJoined
import GoSem.ClaimMapViews
import Derived.JoinedTies
import Derived.KernelRfl
namespace Go.Proofs.Ytjipjhmcpjffcab
/- THE CELL 'sum', in the pinned program and in every row, IS THE sha256 OF THE DUMP (.gsa) THAT YtjipjhmcpjffcabProg.lean LOADS. Nothing in Lean hashes anything: it is a label: what it is worth is what the hold of that sum in a sandbox is worth. -/
noncomputable def Try.pinned : Pinned := { name := "ytjipjhmcpjffcab", sum := "ff855333bed7791df94013fde89a6a68e7bbdbdc5662ed0678c450c99e6bab43", checked := Try.checked }
namespace Rows
def none {H : Type} : Left H := { results := [], args := [] }

/-- 'weighbridgelaw19.TableShard': WHATEVER THE INPUT: true; the input reads as it did. -/
def tableShardSpec : ChangeSpec := { name := "tableShard", fn := fun _ => fun
  | [d1, d2, d3] => { results := [.lit (.bool true)], args := [d1, d2, d3] }
  | _ => none }
def tableShardRow : OpenClaim := { program := "ytjipjhmcpjffcab", sum := "ff855333bed7791df94013fde89a6a68e7bbdbdc5662ed0678c450c99e6bab43", func := "weighbridge/weighbridgelaw19.TableShard", spec := "tableShard", plainKeys := false, apart := false }
def TableShardSaid : Prop := tableShardRow.holds Try.pinned (OpenSpec.ofChange tableShardSpec)

/-- ITS FALSE NEIGHBOUR: 'it returns false'. Refute it at one input. -/
def tableShardWrong : ChangeSpec := { name := "tableShard", fn := fun _ => fun
  | [d1, d2, d3] => { results := [.lit (.bool false)], args := [d1, d2, d3] }
  | _ => none }
def TableShardWrongFalsely : Prop := tableShardRow.holds Try.pinned (OpenSpec.ofChange tableShardWrong)

/-- 'weighbridgelaw19.TableBad': WHATEVER THE INPUT: true; the input reads as it did. -/
def tableBadSpec : ChangeSpec := { name := "tableBad", fn := fun _ => fun
  | [d1, d2, d3, d4, d5] => { results := [.lit (.bool true)], args := [d1, d2, d3, d4, d5] }
  | _ => none }
def tableBadRow : OpenClaim := { program := "ytjipjhmcpjffcab", sum := "ff855333bed7791df94013fde89a6a68e7bbdbdc5662ed0678c450c99e6bab43", func := "weighbridge/weighbridgelaw19.TableBad", spec := "tableBad", plainKeys := false, apart := false }
def TableBadSaid : Prop := tableBadRow.holds Try.pinned (OpenSpec.ofChange tableBadSpec)

/-- ITS FALSE NEIGHBOUR: 'it returns false'. Refute it at one input. -/
def tableBadWrong : ChangeSpec := { name := "tableBad", fn := fun _ => fun
  | [d1, d2, d3, d4, d5] => { results := [.lit (.bool false)], args := [d1, d2, d3, d4, d5] }
  | _ => none }
def TableBadWrongFalsely : Prop := tableBadRow.holds Try.pinned (OpenSpec.ofChange tableBadWrong)

/-- 'weighbridgelaw19.TableHolds': WHATEVER THE INPUT: true; the input reads as it did. -/
def tableHoldsSpec : ChangeSpec := { name := "tableHolds", fn := fun _ => fun
  | [d1, d2, d3] => { results := [.lit (.bool true)], args := [d1, d2, d3] }
  | _ => none }
def tableHoldsRow : OpenClaim := { program := "ytjipjhmcpjffcab", sum := "ff855333bed7791df94013fde89a6a68e7bbdbdc5662ed0678c450c99e6bab43", func := "weighbridge/weighbridgelaw19.TableHolds", spec := "tableHolds", plainKeys := false, apart := false }
def TableHoldsSaid : Prop := tableHoldsRow.holds Try.pinned (OpenSpec.ofChange tableHoldsSpec)

/-- ITS FALSE NEIGHBOUR: 'it returns false'. Refute it at one input. -/
def tableHoldsWrong : ChangeSpec := { name := "tableHolds", fn := fun _ => fun
  | [d1, d2, d3] => { results := [.lit (.bool false)], args := [d1, d2, d3] }
  | _ => none }
def TableHoldsWrongFalsely : Prop := tableHoldsRow.holds Try.pinned (OpenSpec.ofChange tableHoldsWrong)

/-- 'weighbridgelaw19.TableLocks': WHATEVER THE INPUT: true; the input reads as it did. -/
def tableLocksSpec : ChangeSpec := { name := "tableLocks", fn := fun _ => fun
  | [d1, d2, d3] => { results := [.lit (.bool true)], args := [d1, d2, d3] }
  | _ => none }
def tableLocksRow : OpenClaim := { program := "ytjipjhmcpjffcab", sum := "ff855333bed7791df94013fde89a6a68e7bbdbdc5662ed0678c450c99e6bab43", func := "weighbridge/weighbridgelaw19.TableLocks", spec := "tableLocks", plainKeys := false, apart := false }
def TableLocksSaid : Prop := tableLocksRow.holds Try.pinned (OpenSpec.ofChange tableLocksSpec)

/-- ITS FALSE NEIGHBOUR: 'it returns false'. Refute it at one input. -/
def tableLocksWrong : ChangeSpec := { name := "tableLocks", fn := fun _ => fun
  | [d1, d2, d3] => { results := [.lit (.bool false)], args := [d1, d2, d3] }
  | _ => none }
def TableLocksWrongFalsely : Prop := tableLocksRow.holds Try.pinned (OpenSpec.ofChange tableLocksWrong)

/-- 'weighbridgelaw19.TablePlays': WHATEVER THE INPUT: true; the input reads as it did. -/
def tablePlaysSpec : ChangeSpec := { name := "tablePlays", fn := fun _ => fun
  | [d1, d2, d3] => { results := [.lit (.bool true)], args := [d1, d2, d3] }
  | _ => none }
def tablePlaysRow : OpenClaim := { program := "ytjipjhmcpjffcab", sum := "ff855333bed7791df94013fde89a6a68e7bbdbdc5662ed0678c450c99e6bab43", func := "weighbridge/weighbridgelaw19.TablePlays", spec := "tablePlays", unfollowed := true, recurses := true, plainKeys := false, apart := false }
def TablePlaysSaid : Prop := tablePlaysRow.holds Try.pinned (OpenSpec.ofChange tablePlaysSpec)

/-- ITS FALSE NEIGHBOUR: 'it returns false'. Refute it at one input. -/
def tablePlaysWrong : ChangeSpec := { name := "tablePlays", fn := fun _ => fun
  | [d1, d2, d3] => { results := [.lit (.bool false)], args := [d1, d2, d3] }
  | _ => none }
def TablePlaysWrongFalsely : Prop := tablePlaysRow.holds Try.pinned (OpenSpec.ofChange tablePlaysWrong)

/-- 'weighbridgelaw19.TableApart': WHATEVER THE INPUT: true; the input reads as it did. -/
def tableApartSpec : ChangeSpec := { name := "tableApart", fn := fun _ => fun
  | [d1, d2, d3, d4] => { results := [.lit (.bool true)], args := [d1, d2, d3, d4] }
  | _ => none }
def tableApartRow : OpenClaim := { program := "ytjipjhmcpjffcab", sum := "ff855333bed7791df94013fde89a6a68e7bbdbdc5662ed0678c450c99e6bab43", func := "weighbridge/weighbridgelaw19.TableApart", spec := "tableApart", unfollowed := true, recurses := true, plainKeys := false, apart := false }
def TableApartSaid : Prop := tableApartRow.holds Try.pinned (OpenSpec.ofChange tableApartSpec)

/-- ITS FALSE NEIGHBOUR: 'it returns false'. Refute it at one input. -/
def tableApartWrong : ChangeSpec := { name := "tableApart", fn := fun _ => fun
  | [d1, d2, d3, d4] => { results := [.lit (.bool false)], args := [d1, d2, d3, d4] }
  | _ => none }
def TableApartWrongFalsely : Prop := tableApartRow.holds Try.pinned (OpenSpec.ofChange tableApartWrong)

/- THE SECOND FORM. 'bulk': how many values and letters a reading holds, each counted each time it is reached (what is shared counts as often as it is met; a slice's spare places count too). A statement '..UptoSaid' is the law's where the arguments, and the package variables that the reading takes, are together of bulk at most 1048576: NARROWER than '..Said'. Prove '..Said' where nothing that the law and all that it calls make is longer than what came in: it says more and counts as full. Else prove '..UptoSaid'. A law counts once. -/
mutual
def uptoBulk {H : Type} : DataW H → Nat
  | .lit (.string bytes) => bytes.length + 1
  | .lit _ => 1
  | .nil => 1
  | .ptr d => uptoBulk d + 1
  | .slice elems spare => uptoBulkAll elems + uptoBulkAll spare + 1
  | .agg parts => uptoBulkAll parts + 1
  | .iface _ d => uptoBulk d + 1
  | .map entries => uptoBulkEntries entries + 1
  | .held _ => 1
def uptoBulkAll {H : Type} : List (DataW H) → Nat
  | [] => 0
  | d :: r => uptoBulk d + uptoBulkAll r
def uptoBulkEntries {H : Type} : List (Lit × DataW H) → Nat
  | [] => 0
  | x :: r => uptoBulkEntry x + uptoBulkEntries r
def uptoBulkEntry {H : Type} : Lit × DataW H → Nat
  | (.string bytes, d) => bytes.length + uptoBulk d + 1
  | (_, d) => uptoBulk d + 1
 end
def uptoSmall : (H : Type) → List (DataW H) → Bool := fun _ ds => decide (uptoBulkAll ds ≤ 1048576)
def OpenSpec.upto (s : _root_.Go.ChangeSpec) : _root_.Go.OpenSpec := { _root_.Go.OpenSpec.ofChange s with cond := some uptoSmall }

/-- 'weighbridgelaw19.TableShard', WHERE WHAT IT READS IS OF BULK AT MOST 1048576: true; the input reads as it did. -/
def tableShardUptoRow : OpenClaim := { program := "ytjipjhmcpjffcab", sum := "ff855333bed7791df94013fde89a6a68e7bbdbdc5662ed0678c450c99e6bab43", func := "weighbridge/weighbridgelaw19.TableShard", spec := "tableShard", plainKeys := false, apart := false, narrowed := true }
def TableShardUptoSaid : Prop := tableShardUptoRow.holds Try.pinned (OpenSpec.upto tableShardSpec)

/-- 'weighbridgelaw19.TableBad', WHERE WHAT IT READS IS OF BULK AT MOST 1048576: true; the input reads as it did. -/
def tableBadUptoRow : OpenClaim := { program := "ytjipjhmcpjffcab", sum := "ff855333bed7791df94013fde89a6a68e7bbdbdc5662ed0678c450c99e6bab43", func := "weighbridge/weighbridgelaw19.TableBad", spec := "tableBad", plainKeys := false, apart := false, narrowed := true }
def TableBadUptoSaid : Prop := tableBadUptoRow.holds Try.pinned (OpenSpec.upto tableBadSpec)

/-- 'weighbridgelaw19.TableHolds', WHERE WHAT IT READS IS OF BULK AT MOST 1048576: true; the input reads as it did. -/
def tableHoldsUptoRow : OpenClaim := { program := "ytjipjhmcpjffcab", sum := "ff855333bed7791df94013fde89a6a68e7bbdbdc5662ed0678c450c99e6bab43", func := "weighbridge/weighbridgelaw19.TableHolds", spec := "tableHolds", plainKeys := false, apart := false, narrowed := true }
def TableHoldsUptoSaid : Prop := tableHoldsUptoRow.holds Try.pinned (OpenSpec.upto tableHoldsSpec)

/-- 'weighbridgelaw19.TableLocks', WHERE WHAT IT READS IS OF BULK AT MOST 1048576: true; the input reads as it did. -/
def tableLocksUptoRow : OpenClaim := { program := "ytjipjhmcpjffcab", sum := "ff855333bed7791df94013fde89a6a68e7bbdbdc5662ed0678c450c99e6bab43", func := "weighbridge/weighbridgelaw19.TableLocks", spec := "tableLocks", plainKeys := false, apart := false, narrowed := true }
def TableLocksUptoSaid : Prop := tableLocksUptoRow.holds Try.pinned (OpenSpec.upto tableLocksSpec)

/-- 'weighbridgelaw19.TablePlays', WHERE WHAT IT READS IS OF BULK AT MOST 1048576: true; the input reads as it did. -/
def tablePlaysUptoRow : OpenClaim := { program := "ytjipjhmcpjffcab", sum := "ff855333bed7791df94013fde89a6a68e7bbdbdc5662ed0678c450c99e6bab43", func := "weighbridge/weighbridgelaw19.TablePlays", spec := "tablePlays", unfollowed := true, recurses := true, plainKeys := false, apart := false, narrowed := true }
def TablePlaysUptoSaid : Prop := tablePlaysUptoRow.holds Try.pinned (OpenSpec.upto tablePlaysSpec)

/-- 'weighbridgelaw19.TableApart', WHERE WHAT IT READS IS OF BULK AT MOST 1048576: true; the input reads as it did. -/
def tableApartUptoRow : OpenClaim := { program := "ytjipjhmcpjffcab", sum := "ff855333bed7791df94013fde89a6a68e7bbdbdc5662ed0678c450c99e6bab43", func := "weighbridge/weighbridgelaw19.TableApart", spec := "tableApart", unfollowed := true, recurses := true, plainKeys := false, apart := false, narrowed := true }
def TableApartUptoSaid : Prop := tableApartUptoRow.holds Try.pinned (OpenSpec.upto tableApartSpec)

end Rows
end Go.Proofs.Ytjipjhmcpjffcab
