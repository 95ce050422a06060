/-
  No cell of these rows narrows 'for every input' (looked for: loops, veiled, ifaces, maps, wideKeys, modest, calm, conditions, laid).
  DERIVED. THE GIVEN ROWS OF THIS SEAT. 6 by the template 'for every input the law returns true; each argument reads behind the call as it read before'; 0 by the template 'total and deterministic' (their statements: YtjipjhmcpjffcaaTotals.lean).
  GIVEN WITH THE SEED: the statements are not yours to turn. If you find one false, say at which input.
  Laid BY PROGRAM, IN A SANDBOX (cutbox-rows.mjs): the forced cells as the released guide's own fill.sh prints them over the translation d89e08554b4895d3… (all of the seat's roots in one cut). By AI agents, Wed Nov 11 2026. No macro, syntax, notation, axiom, sorry.
-/
import Derived.Test.YtjipjhmcpjffcaaChecked
import GoSem.Claim
import GoSem.ClaimJoined
import GoSem.ClaimMapViews
import Derived.JoinedTies
import Derived.KernelRfl
namespace Go.Proofs.Ytjipjhmcpjffcaa
/- THE CELL 'sum', in the pinned program and in every row, IS THE sha256 OF THE DUMP (.gsa) THAT YtjipjhmcpjffcaaProg.lean LOADS. Nothing in Lean hashes anything: it is a label: what it is worth is what the hold of that sum in a sandbox is worth. -/
noncomputable def Try.pinned : Pinned := { name := "ytjipjhmcpjffcaa", sum := "d89e08554b4895d3adb9a87d3eac4d07a16f0ea8c34bbaaa55b240ce0bff65bc", checked := Try.checked }
namespace Rows
def none {H : Type} : Left H := { results := [], args := [] }

/-- 'weighbridgelaw18.InboxCalm': WHATEVER THE INPUT: true; the input reads as it did. -/
def inboxCalmSpec : ChangeSpec := { name := "inboxCalm", fn := fun _ => fun
  | [d1, d2] => { results := [.lit (.bool true)], args := [d1, d2] }
  | _ => none }
def inboxCalmRow : OpenClaim := { program := "ytjipjhmcpjffcaa", sum := "d89e08554b4895d3adb9a87d3eac4d07a16f0ea8c34bbaaa55b240ce0bff65bc", func := "weighbridge/weighbridgelaw18.InboxCalm", spec := "inboxCalm", unfollowed := true, recurses := true, plainKeys := false, apart := false }
def InboxCalmSaid : Prop := inboxCalmRow.holds Try.pinned (OpenSpec.ofChange inboxCalmSpec)

/-- ITS FALSE NEIGHBOUR: 'it returns false'. Refute it at one input. -/
def inboxCalmWrong : ChangeSpec := { name := "inboxCalm", fn := fun _ => fun
  | [d1, d2] => { results := [.lit (.bool false)], args := [d1, d2] }
  | _ => none }
def InboxCalmWrongFalsely : Prop := inboxCalmRow.holds Try.pinned (OpenSpec.ofChange inboxCalmWrong)

/-- 'weighbridgelaw18.InboxSection': WHATEVER THE INPUT: true; the input reads as it did. -/
def inboxSectionSpec : ChangeSpec := { name := "inboxSection", fn := fun _ => fun
  | [d1, d2] => { results := [.lit (.bool true)], args := [d1, d2] }
  | _ => none }
def inboxSectionRow : OpenClaim := { program := "ytjipjhmcpjffcaa", sum := "d89e08554b4895d3adb9a87d3eac4d07a16f0ea8c34bbaaa55b240ce0bff65bc", func := "weighbridge/weighbridgelaw18.InboxSection", spec := "inboxSection", unfollowed := true, recurses := true, plainKeys := false, apart := false }
def InboxSectionSaid : Prop := inboxSectionRow.holds Try.pinned (OpenSpec.ofChange inboxSectionSpec)

/-- ITS FALSE NEIGHBOUR: 'it returns false'. Refute it at one input. -/
def inboxSectionWrong : ChangeSpec := { name := "inboxSection", fn := fun _ => fun
  | [d1, d2] => { results := [.lit (.bool false)], args := [d1, d2] }
  | _ => none }
def InboxSectionWrongFalsely : Prop := inboxSectionRow.holds Try.pinned (OpenSpec.ofChange inboxSectionWrong)

/-- 'weighbridgelaw18.InboxPiles': WHATEVER THE INPUT: true; the input reads as it did. -/
def inboxPilesSpec : ChangeSpec := { name := "inboxPiles", fn := fun _ => fun
  | [d1, d2, d3, d4] => { results := [.lit (.bool true)], args := [d1, d2, d3, d4] }
  | _ => none }
def inboxPilesRow : OpenClaim := { program := "ytjipjhmcpjffcaa", sum := "d89e08554b4895d3adb9a87d3eac4d07a16f0ea8c34bbaaa55b240ce0bff65bc", func := "weighbridge/weighbridgelaw18.InboxPiles", spec := "inboxPiles", unfollowed := true, recurses := true, plainKeys := false, apart := false }
def InboxPilesSaid : Prop := inboxPilesRow.holds Try.pinned (OpenSpec.ofChange inboxPilesSpec)

/-- ITS FALSE NEIGHBOUR: 'it returns false'. Refute it at one input. -/
def inboxPilesWrong : ChangeSpec := { name := "inboxPiles", fn := fun _ => fun
  | [d1, d2, d3, d4] => { results := [.lit (.bool false)], args := [d1, d2, d3, d4] }
  | _ => none }
def InboxPilesWrongFalsely : Prop := inboxPilesRow.holds Try.pinned (OpenSpec.ofChange inboxPilesWrong)

/-- 'weighbridgelaw18.InboxRaces': WHATEVER THE INPUT: true; the input reads as it did. -/
def inboxRacesSpec : ChangeSpec := { name := "inboxRaces", fn := fun _ => fun
  | [d1, d2, d3, d4] => { results := [.lit (.bool true)], args := [d1, d2, d3, d4] }
  | _ => none }
def inboxRacesRow : OpenClaim := { program := "ytjipjhmcpjffcaa", sum := "d89e08554b4895d3adb9a87d3eac4d07a16f0ea8c34bbaaa55b240ce0bff65bc", func := "weighbridge/weighbridgelaw18.InboxRaces", spec := "inboxRaces", unfollowed := true, recurses := true, plainKeys := false, apart := false }
def InboxRacesSaid : Prop := inboxRacesRow.holds Try.pinned (OpenSpec.ofChange inboxRacesSpec)

/-- ITS FALSE NEIGHBOUR: 'it returns false'. Refute it at one input. -/
def inboxRacesWrong : ChangeSpec := { name := "inboxRaces", fn := fun _ => fun
  | [d1, d2, d3, d4] => { results := [.lit (.bool false)], args := [d1, d2, d3, d4] }
  | _ => none }
def InboxRacesWrongFalsely : Prop := inboxRacesRow.holds Try.pinned (OpenSpec.ofChange inboxRacesWrong)

/-- 'weighbridgelaw18.InboxPlays': WHATEVER THE INPUT: true; the input reads as it did. -/
def inboxPlaysSpec : ChangeSpec := { name := "inboxPlays", fn := fun _ => fun
  | [d1, d2] => { results := [.lit (.bool true)], args := [d1, d2] }
  | _ => none }
def inboxPlaysRow : OpenClaim := { program := "ytjipjhmcpjffcaa", sum := "d89e08554b4895d3adb9a87d3eac4d07a16f0ea8c34bbaaa55b240ce0bff65bc", func := "weighbridge/weighbridgelaw18.InboxPlays", spec := "inboxPlays", unfollowed := true, recurses := true, plainKeys := false, apart := false }
def InboxPlaysSaid : Prop := inboxPlaysRow.holds Try.pinned (OpenSpec.ofChange inboxPlaysSpec)

/-- ITS FALSE NEIGHBOUR: 'it returns false'. Refute it at one input. -/
def inboxPlaysWrong : ChangeSpec := { name := "inboxPlays", fn := fun _ => fun
  | [d1, d2] => { results := [.lit (.bool false)], args := [d1, d2] }
  | _ => none }
def InboxPlaysWrongFalsely : Prop := inboxPlaysRow.holds Try.pinned (OpenSpec.ofChange inboxPlaysWrong)

/-- 'weighbridgelaw18.InboxApart': WHATEVER THE INPUT: true; the input reads as it did. -/
def inboxApartSpec : ChangeSpec := { name := "inboxApart", fn := fun _ => fun
  | [d1, d2, d3, d4] => { results := [.lit (.bool true)], args := [d1, d2, d3, d4] }
  | _ => none }
def inboxApartRow : OpenClaim := { program := "ytjipjhmcpjffcaa", sum := "d89e08554b4895d3adb9a87d3eac4d07a16f0ea8c34bbaaa55b240ce0bff65bc", func := "weighbridge/weighbridgelaw18.InboxApart", spec := "inboxApart", unfollowed := true, recurses := true, plainKeys := false, apart := false }
def InboxApartSaid : Prop := inboxApartRow.holds Try.pinned (OpenSpec.ofChange inboxApartSpec)

/-- ITS FALSE NEIGHBOUR: 'it returns false'. Refute it at one input. -/
def inboxApartWrong : ChangeSpec := { name := "inboxApart", fn := fun _ => fun
  | [d1, d2, d3, d4] => { results := [.lit (.bool false)], args := [d1, d2, d3, d4] }
  | _ => none }
def InboxApartWrongFalsely : Prop := inboxApartRow.holds Try.pinned (OpenSpec.ofChange inboxApartWrong)

/- THE SECOND FORM. 'bulk': how many values and letters a reading holds, each counted each time it is reached (what is shared counts as often as it is met; a slice's spare places count too). A statement '..UptoSaid' is the law's where the arguments, and the package variables that the reading takes, are together of bulk at most 1048576: NARROWER than '..Said'. Prove '..Said' where nothing that the law and all that it calls make is longer than what came in: it says more and counts as full. Else prove '..UptoSaid'. A law counts once. -/
mutual
def uptoBulk {H : Type} : DataW H → Nat
  | .lit (.string bytes) => bytes.length + 1
  | .lit _ => 1
  | .nil => 1
  | .ptr d => uptoBulk d + 1
  | .slice elems spare => uptoBulkAll elems + uptoBulkAll spare + 1
  | .agg parts => uptoBulkAll parts + 1
  | .iface _ d => uptoBulk d + 1
  | .map entries => uptoBulkEntries entries + 1
  | .held _ => 1
def uptoBulkAll {H : Type} : List (DataW H) → Nat
  | [] => 0
  | d :: r => uptoBulk d + uptoBulkAll r
def uptoBulkEntries {H : Type} : List (Lit × DataW H) → Nat
  | [] => 0
  | x :: r => uptoBulkEntry x + uptoBulkEntries r
def uptoBulkEntry {H : Type} : Lit × DataW H → Nat
  | (.string bytes, d) => bytes.length + uptoBulk d + 1
  | (_, d) => uptoBulk d + 1
 end
def uptoSmall : (H : Type) → List (DataW H) → Bool := fun _ ds => decide (uptoBulkAll ds ≤ 1048576)
def OpenSpec.upto (s : _root_.Go.ChangeSpec) : _root_.Go.OpenSpec := { _root_.Go.OpenSpec.ofChange s with cond := some uptoSmall }

/-- 'weighbridgelaw18.InboxCalm', WHERE WHAT IT READS IS OF BULK AT MOST 1048576: true; the input reads as it did. -/
def inboxCalmUptoRow : OpenClaim := { program := "ytjipjhmcpjffcaa", sum := "d89e08554b4895d3adb9a87d3eac4d07a16f0ea8c34bbaaa55b240ce0bff65bc", func := "weighbridge/weighbridgelaw18.InboxCalm", spec := "inboxCalm", unfollowed := true, recurses := true, plainKeys := false, apart := false, narrowed := true }
def InboxCalmUptoSaid : Prop := inboxCalmUptoRow.holds Try.pinned (OpenSpec.upto inboxCalmSpec)

/-- 'weighbridgelaw18.InboxSection', WHERE WHAT IT READS IS OF BULK AT MOST 1048576: true; the input reads as it did. -/
def inboxSectionUptoRow : OpenClaim := { program := "ytjipjhmcpjffcaa", sum := "d89e08554b4895d3adb9a87d3eac4d07a16f0ea8c34bbaaa55b240ce0bff65bc", func := "weighbridge/weighbridgelaw18.InboxSection", spec := "inboxSection", unfollowed := true, recurses := true, plainKeys := false, apart := false, narrowed := true }
def InboxSectionUptoSaid : Prop := inboxSectionUptoRow.holds Try.pinned (OpenSpec.upto inboxSectionSpec)

/-- 'weighbridgelaw18.InboxPiles', WHERE WHAT IT READS IS OF BULK AT MOST 1048576: true; the input reads as it did. -/
def inboxPilesUptoRow : OpenClaim := { program := "ytjipjhmcpjffcaa", sum := "d89e08554b4895d3adb9a87d3eac4d07a16f0ea8c34bbaaa55b240ce0bff65bc", func := "weighbridge/weighbridgelaw18.InboxPiles", spec := "inboxPiles", unfollowed := true, recurses := true, plainKeys := false, apart := false, narrowed := true }
def InboxPilesUptoSaid : Prop := inboxPilesUptoRow.holds Try.pinned (OpenSpec.upto inboxPilesSpec)

/-- 'weighbridgelaw18.InboxRaces', WHERE WHAT IT READS IS OF BULK AT MOST 1048576: true; the input reads as it did. -/
def inboxRacesUptoRow : OpenClaim := { program := "ytjipjhmcpjffcaa", sum := "d89e08554b4895d3adb9a87d3eac4d07a16f0ea8c34bbaaa55b240ce0bff65bc", func := "weighbridge/weighbridgelaw18.InboxRaces", spec := "inboxRaces", unfollowed := true, recurses := true, plainKeys := false, apart := false, narrowed := true }
def InboxRacesUptoSaid : Prop := inboxRacesUptoRow.holds Try.pinned (OpenSpec.upto inboxRacesSpec)

/-- 'weighbridgelaw18.InboxPlays', WHERE WHAT IT READS IS OF BULK AT MOST 1048576: true; the input reads as it did. -/
def inboxPlaysUptoRow : OpenClaim := { program := "ytjipjhmcpjffcaa", sum := "d89e08554b4895d3adb9a87d3eac4d07a16f0ea8c34bbaaa55b240ce0bff65bc", func := "weighbridge/weighbridgelaw18.InboxPlays", spec := "inboxPlays", unfollowed := true, recurses := true, plainKeys := false, apart := false, narrowed := true }
def InboxPlaysUptoSaid : Prop := inboxPlaysUptoRow.holds Try.pinned (OpenSpec.upto inboxPlaysSpec)

/-- 'weighbridgelaw18.InboxApart', WHERE WHAT IT READS IS OF BULK AT MOST 1048576: true; the input reads as it did. -/
def inboxApartUptoRow : OpenClaim := { program := "ytjipjhmcpjffcaa", sum := "d89e08554b4895d3adb9a87d3eac4d07a16f0ea8c34bbaaa55b240ce0bff65bc", func := "weighbridge/weighbridgelaw18.InboxApart", spec := "inboxApart", unfollowed := true, recurses := true, plainKeys := false, apart := false, narrowed := true }
def InboxApartUptoSaid : Prop := inboxApartUptoRow.holds Try.pinned (OpenSpec.upto inboxApartSpec)

end Rows
end Go.Proofs.Ytjipjhmcpjffcaa
