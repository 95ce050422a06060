/-
  No cell of these rows narrows 'for every input' (looked for: loops, veiled, ifaces, maps, wideKeys, modest, calm, conditions, laid).
  DERIVED. THE GIVEN ROWS OF THIS SEAT. 6 by the template 'for every input the law returns true; each argument reads behind the call as it read before'; 0 by the template 'total and deterministic' (their statements: YtjipjhmcpjffcadTotals.lean).
  GIVEN WITH THE SEED: the statements are not yours to turn. If you find one false, say at which input.
  Laid BY PROGRAM, IN A SANDBOX (cutbox-rows.mjs): the forced cells as the released guide's own fill.sh prints them over the translation b00a947d30bbd52c… (all of the seat's roots in one cut). By AI agents, Wed Nov 11 2026. No macro, syntax, notation, axiom, sorry.
-/
import Derived.Test.YtjipjhmcpjffcadChecked
import GoSem.Claim
import GoSem.ClaimJoined
import GoSem.ClaimMapViews
import Derived.JoinedTies
import Derived.KernelRfl
namespace Go.Proofs.Ytjipjhmcpjffcad
/- THE CELL 'sum', in the pinned program and in every row, IS THE sha256 OF THE DUMP (.gsa) THAT YtjipjhmcpjffcadProg.lean LOADS. Nothing in Lean hashes anything: it is a label: what it is worth is what the hold of that sum in a sandbox is worth. -/
noncomputable def Try.pinned : Pinned := { name := "ytjipjhmcpjffcad", sum := "b00a947d30bbd52c006866a056c77a5ac9cd77264f94f62490c25a8499588215", checked := Try.checked }
namespace Rows
def none {H : Type} : Left H := { results := [], args := [] }

/-- 'weighbridgelaw17.RingFull': WHATEVER THE INPUT: true; the input reads as it did. -/
def ringFullSpec : ChangeSpec := { name := "ringFull", fn := fun _ => fun
  | [d1, d2, d3, d4] => { results := [.lit (.bool true)], args := [d1, d2, d3, d4] }
  | _ => none }
def ringFullRow : OpenClaim := { program := "ytjipjhmcpjffcad", sum := "b00a947d30bbd52c006866a056c77a5ac9cd77264f94f62490c25a8499588215", func := "weighbridge/weighbridgelaw17.RingFull", spec := "ringFull", unfollowed := true, recurses := true, plainKeys := false, apart := false }
def RingFullSaid : Prop := ringFullRow.holds Try.pinned (OpenSpec.ofChange ringFullSpec)

/-- ITS FALSE NEIGHBOUR: 'it returns false'. Refute it at one input. -/
def ringFullWrong : ChangeSpec := { name := "ringFull", fn := fun _ => fun
  | [d1, d2, d3, d4] => { results := [.lit (.bool false)], args := [d1, d2, d3, d4] }
  | _ => none }
def RingFullWrongFalsely : Prop := ringFullRow.holds Try.pinned (OpenSpec.ofChange ringFullWrong)

/-- 'weighbridgelaw17.RingClaims': WHATEVER THE INPUT: true; the input reads as it did. -/
def ringClaimsSpec : ChangeSpec := { name := "ringClaims", fn := fun _ => fun
  | [d1, d2, d3, d4] => { results := [.lit (.bool true)], args := [d1, d2, d3, d4] }
  | _ => none }
def ringClaimsRow : OpenClaim := { program := "ytjipjhmcpjffcad", sum := "b00a947d30bbd52c006866a056c77a5ac9cd77264f94f62490c25a8499588215", func := "weighbridge/weighbridgelaw17.RingClaims", spec := "ringClaims", unfollowed := true, recurses := true, plainKeys := false, apart := false }
def RingClaimsSaid : Prop := ringClaimsRow.holds Try.pinned (OpenSpec.ofChange ringClaimsSpec)

/-- ITS FALSE NEIGHBOUR: 'it returns false'. Refute it at one input. -/
def ringClaimsWrong : ChangeSpec := { name := "ringClaims", fn := fun _ => fun
  | [d1, d2, d3, d4] => { results := [.lit (.bool false)], args := [d1, d2, d3, d4] }
  | _ => none }
def RingClaimsWrongFalsely : Prop := ringClaimsRow.holds Try.pinned (OpenSpec.ofChange ringClaimsWrong)

/-- 'weighbridgelaw17.RingRoom': WHATEVER THE INPUT: true; the input reads as it did. -/
def ringRoomSpec : ChangeSpec := { name := "ringRoom", fn := fun _ => fun
  | [d1, d2, d3] => { results := [.lit (.bool true)], args := [d1, d2, d3] }
  | _ => none }
def ringRoomRow : OpenClaim := { program := "ytjipjhmcpjffcad", sum := "b00a947d30bbd52c006866a056c77a5ac9cd77264f94f62490c25a8499588215", func := "weighbridge/weighbridgelaw17.RingRoom", spec := "ringRoom", unfollowed := true, recurses := true, plainKeys := false, apart := false }
def RingRoomSaid : Prop := ringRoomRow.holds Try.pinned (OpenSpec.ofChange ringRoomSpec)

/-- ITS FALSE NEIGHBOUR: 'it returns false'. Refute it at one input. -/
def ringRoomWrong : ChangeSpec := { name := "ringRoom", fn := fun _ => fun
  | [d1, d2, d3] => { results := [.lit (.bool false)], args := [d1, d2, d3] }
  | _ => none }
def RingRoomWrongFalsely : Prop := ringRoomRow.holds Try.pinned (OpenSpec.ofChange ringRoomWrong)

/-- 'weighbridgelaw17.RingLives': WHATEVER THE INPUT: true; the input reads as it did. -/
def ringLivesSpec : ChangeSpec := { name := "ringLives", fn := fun _ => fun
  | [d1, d2, d3] => { results := [.lit (.bool true)], args := [d1, d2, d3] }
  | _ => none }
def ringLivesRow : OpenClaim := { program := "ytjipjhmcpjffcad", sum := "b00a947d30bbd52c006866a056c77a5ac9cd77264f94f62490c25a8499588215", func := "weighbridge/weighbridgelaw17.RingLives", spec := "ringLives", unfollowed := true, recurses := true, plainKeys := false, apart := false }
def RingLivesSaid : Prop := ringLivesRow.holds Try.pinned (OpenSpec.ofChange ringLivesSpec)

/-- ITS FALSE NEIGHBOUR: 'it returns false'. Refute it at one input. -/
def ringLivesWrong : ChangeSpec := { name := "ringLives", fn := fun _ => fun
  | [d1, d2, d3] => { results := [.lit (.bool false)], args := [d1, d2, d3] }
  | _ => none }
def RingLivesWrongFalsely : Prop := ringLivesRow.holds Try.pinned (OpenSpec.ofChange ringLivesWrong)

/-- 'weighbridgelaw17.RingApart': WHATEVER THE INPUT: true; the input reads as it did. -/
def ringApartSpec : ChangeSpec := { name := "ringApart", fn := fun _ => fun
  | [d1, d2, d3, d4, d5] => { results := [.lit (.bool true)], args := [d1, d2, d3, d4, d5] }
  | _ => none }
def ringApartRow : OpenClaim := { program := "ytjipjhmcpjffcad", sum := "b00a947d30bbd52c006866a056c77a5ac9cd77264f94f62490c25a8499588215", func := "weighbridge/weighbridgelaw17.RingApart", spec := "ringApart", unfollowed := true, recurses := true, plainKeys := false, apart := false }
def RingApartSaid : Prop := ringApartRow.holds Try.pinned (OpenSpec.ofChange ringApartSpec)

/-- ITS FALSE NEIGHBOUR: 'it returns false'. Refute it at one input. -/
def ringApartWrong : ChangeSpec := { name := "ringApart", fn := fun _ => fun
  | [d1, d2, d3, d4, d5] => { results := [.lit (.bool false)], args := [d1, d2, d3, d4, d5] }
  | _ => none }
def RingApartWrongFalsely : Prop := ringApartRow.holds Try.pinned (OpenSpec.ofChange ringApartWrong)

/-- 'weighbridgelaw17.RingPlays': WHATEVER THE INPUT: true; the input reads as it did. -/
def ringPlaysSpec : ChangeSpec := { name := "ringPlays", fn := fun _ => fun
  | [d1, d2, d3] => { results := [.lit (.bool true)], args := [d1, d2, d3] }
  | _ => none }
def ringPlaysRow : OpenClaim := { program := "ytjipjhmcpjffcad", sum := "b00a947d30bbd52c006866a056c77a5ac9cd77264f94f62490c25a8499588215", func := "weighbridge/weighbridgelaw17.RingPlays", spec := "ringPlays", unfollowed := true, recurses := true, plainKeys := false, apart := false }
def RingPlaysSaid : Prop := ringPlaysRow.holds Try.pinned (OpenSpec.ofChange ringPlaysSpec)

/-- ITS FALSE NEIGHBOUR: 'it returns false'. Refute it at one input. -/
def ringPlaysWrong : ChangeSpec := { name := "ringPlays", fn := fun _ => fun
  | [d1, d2, d3] => { results := [.lit (.bool false)], args := [d1, d2, d3] }
  | _ => none }
def RingPlaysWrongFalsely : Prop := ringPlaysRow.holds Try.pinned (OpenSpec.ofChange ringPlaysWrong)

/- THE SECOND FORM. 'bulk': how many values and letters a reading holds, each counted each time it is reached (what is shared counts as often as it is met; a slice's spare places count too). A statement '..UptoSaid' is the law's where the arguments, and the package variables that the reading takes, are together of bulk at most 1048576: NARROWER than '..Said'. Prove '..Said' where nothing that the law and all that it calls make is longer than what came in: it says more and counts as full. Else prove '..UptoSaid'. A law counts once. -/
mutual
def uptoBulk {H : Type} : DataW H → Nat
  | .lit (.string bytes) => bytes.length + 1
  | .lit _ => 1
  | .nil => 1
  | .ptr d => uptoBulk d + 1
  | .slice elems spare => uptoBulkAll elems + uptoBulkAll spare + 1
  | .agg parts => uptoBulkAll parts + 1
  | .iface _ d => uptoBulk d + 1
  | .map entries => uptoBulkEntries entries + 1
  | .held _ => 1
def uptoBulkAll {H : Type} : List (DataW H) → Nat
  | [] => 0
  | d :: r => uptoBulk d + uptoBulkAll r
def uptoBulkEntries {H : Type} : List (Lit × DataW H) → Nat
  | [] => 0
  | x :: r => uptoBulkEntry x + uptoBulkEntries r
def uptoBulkEntry {H : Type} : Lit × DataW H → Nat
  | (.string bytes, d) => bytes.length + uptoBulk d + 1
  | (_, d) => uptoBulk d + 1
 end
def uptoSmall : (H : Type) → List (DataW H) → Bool := fun _ ds => decide (uptoBulkAll ds ≤ 1048576)
def OpenSpec.upto (s : _root_.Go.ChangeSpec) : _root_.Go.OpenSpec := { _root_.Go.OpenSpec.ofChange s with cond := some uptoSmall }

/-- 'weighbridgelaw17.RingFull', WHERE WHAT IT READS IS OF BULK AT MOST 1048576: true; the input reads as it did. -/
def ringFullUptoRow : OpenClaim := { program := "ytjipjhmcpjffcad", sum := "b00a947d30bbd52c006866a056c77a5ac9cd77264f94f62490c25a8499588215", func := "weighbridge/weighbridgelaw17.RingFull", spec := "ringFull", unfollowed := true, recurses := true, plainKeys := false, apart := false, narrowed := true }
def RingFullUptoSaid : Prop := ringFullUptoRow.holds Try.pinned (OpenSpec.upto ringFullSpec)

/-- 'weighbridgelaw17.RingClaims', WHERE WHAT IT READS IS OF BULK AT MOST 1048576: true; the input reads as it did. -/
def ringClaimsUptoRow : OpenClaim := { program := "ytjipjhmcpjffcad", sum := "b00a947d30bbd52c006866a056c77a5ac9cd77264f94f62490c25a8499588215", func := "weighbridge/weighbridgelaw17.RingClaims", spec := "ringClaims", unfollowed := true, recurses := true, plainKeys := false, apart := false, narrowed := true }
def RingClaimsUptoSaid : Prop := ringClaimsUptoRow.holds Try.pinned (OpenSpec.upto ringClaimsSpec)

/-- 'weighbridgelaw17.RingRoom', WHERE WHAT IT READS IS OF BULK AT MOST 1048576: true; the input reads as it did. -/
def ringRoomUptoRow : OpenClaim := { program := "ytjipjhmcpjffcad", sum := "b00a947d30bbd52c006866a056c77a5ac9cd77264f94f62490c25a8499588215", func := "weighbridge/weighbridgelaw17.RingRoom", spec := "ringRoom", unfollowed := true, recurses := true, plainKeys := false, apart := false, narrowed := true }
def RingRoomUptoSaid : Prop := ringRoomUptoRow.holds Try.pinned (OpenSpec.upto ringRoomSpec)

/-- 'weighbridgelaw17.RingLives', WHERE WHAT IT READS IS OF BULK AT MOST 1048576: true; the input reads as it did. -/
def ringLivesUptoRow : OpenClaim := { program := "ytjipjhmcpjffcad", sum := "b00a947d30bbd52c006866a056c77a5ac9cd77264f94f62490c25a8499588215", func := "weighbridge/weighbridgelaw17.RingLives", spec := "ringLives", unfollowed := true, recurses := true, plainKeys := false, apart := false, narrowed := true }
def RingLivesUptoSaid : Prop := ringLivesUptoRow.holds Try.pinned (OpenSpec.upto ringLivesSpec)

/-- 'weighbridgelaw17.RingApart', WHERE WHAT IT READS IS OF BULK AT MOST 1048576: true; the input reads as it did. -/
def ringApartUptoRow : OpenClaim := { program := "ytjipjhmcpjffcad", sum := "b00a947d30bbd52c006866a056c77a5ac9cd77264f94f62490c25a8499588215", func := "weighbridge/weighbridgelaw17.RingApart", spec := "ringApart", unfollowed := true, recurses := true, plainKeys := false, apart := false, narrowed := true }
def RingApartUptoSaid : Prop := ringApartUptoRow.holds Try.pinned (OpenSpec.upto ringApartSpec)

/-- 'weighbridgelaw17.RingPlays', WHERE WHAT IT READS IS OF BULK AT MOST 1048576: true; the input reads as it did. -/
def ringPlaysUptoRow : OpenClaim := { program := "ytjipjhmcpjffcad", sum := "b00a947d30bbd52c006866a056c77a5ac9cd77264f94f62490c25a8499588215", func := "weighbridge/weighbridgelaw17.RingPlays", spec := "ringPlays", unfollowed := true, recurses := true, plainKeys := false, apart := false, narrowed := true }
def RingPlaysUptoSaid : Prop := ringPlaysUptoRow.holds Try.pinned (OpenSpec.upto ringPlaysSpec)

end Rows
end Go.Proofs.Ytjipjhmcpjffcad
