/-
  No cell of these rows narrows 'for every input' (looked for: loops, veiled, ifaces, maps, wideKeys, modest, calm, conditions, laid).
  DERIVED. THE GIVEN ROWS OF THIS SEAT. 6 by the template 'for every input the law returns true; each argument reads behind the call as it read before'; 0 by the template 'total and deterministic' (their statements: YtjipjhmcpjffcacTotals.lean).
  GIVEN WITH THE SEED: the statements are not yours to turn. If you find one false, say at which input.
  Laid BY PROGRAM, IN A SANDBOX (cutbox-rows.mjs): the forced cells as the released guide's own fill.sh prints them over the translation 028005791451011c… (all of the seat's roots in one cut). By AI agents, Wed Nov 11 2026. No macro, syntax, notation, axiom, sorry.
-/
import Derived.Test.YtjipjhmcpjffcacChecked
import GoSem.Claim
import GoSem.ClaimJoined
import GoSem.ClaimMapViews
import Derived.JoinedTies
import Derived.KernelRfl
namespace Go.Proofs.Ytjipjhmcpjffcac
/- THE CELL 'sum', in the pinned program and in every row, IS THE sha256 OF THE DUMP (.gsa) THAT YtjipjhmcpjffcacProg.lean LOADS. Nothing in Lean hashes anything: it is a label: what it is worth is what the hold of that sum in a sandbox is worth. -/
noncomputable def Try.pinned : Pinned := { name := "ytjipjhmcpjffcac", sum := "028005791451011cc78967bd89000ed6c1cf9b26d83990b801a2dddc350aa0b3", checked := Try.checked }
namespace Rows
def none {H : Type} : Left H := { results := [], args := [] }

/-- 'weighbridgelaw20.PostServes': WHATEVER THE INPUT: true; the input reads as it did. -/
def postServesSpec : ChangeSpec := { name := "postServes", fn := fun _ => fun
  | [d1, d2, d3, d4] => { results := [.lit (.bool true)], args := [d1, d2, d3, d4] }
  | _ => none }
def postServesRow : OpenClaim := { program := "ytjipjhmcpjffcac", sum := "028005791451011cc78967bd89000ed6c1cf9b26d83990b801a2dddc350aa0b3", func := "weighbridge/weighbridgelaw20.PostServes", spec := "postServes", unfollowed := true, recurses := true, plainKeys := false, apart := false }
def PostServesSaid : Prop := postServesRow.holds Try.pinned (OpenSpec.ofChange postServesSpec)

/-- ITS FALSE NEIGHBOUR: 'it returns false'. Refute it at one input. -/
def postServesWrong : ChangeSpec := { name := "postServes", fn := fun _ => fun
  | [d1, d2, d3, d4] => { results := [.lit (.bool false)], args := [d1, d2, d3, d4] }
  | _ => none }
def PostServesWrongFalsely : Prop := postServesRow.holds Try.pinned (OpenSpec.ofChange postServesWrong)

/-- 'weighbridgelaw20.PostKept': WHATEVER THE INPUT: true; the input reads as it did. -/
def postKeptSpec : ChangeSpec := { name := "postKept", fn := fun _ => fun
  | [d1, d2, d3] => { results := [.lit (.bool true)], args := [d1, d2, d3] }
  | _ => none }
def postKeptRow : OpenClaim := { program := "ytjipjhmcpjffcac", sum := "028005791451011cc78967bd89000ed6c1cf9b26d83990b801a2dddc350aa0b3", func := "weighbridge/weighbridgelaw20.PostKept", spec := "postKept", unfollowed := true, recurses := true, plainKeys := false, apart := false }
def PostKeptSaid : Prop := postKeptRow.holds Try.pinned (OpenSpec.ofChange postKeptSpec)

/-- ITS FALSE NEIGHBOUR: 'it returns false'. Refute it at one input. -/
def postKeptWrong : ChangeSpec := { name := "postKept", fn := fun _ => fun
  | [d1, d2, d3] => { results := [.lit (.bool false)], args := [d1, d2, d3] }
  | _ => none }
def PostKeptWrongFalsely : Prop := postKeptRow.holds Try.pinned (OpenSpec.ofChange postKeptWrong)

/-- 'weighbridgelaw20.PostLock': WHATEVER THE INPUT: true; the input reads as it did. -/
def postLockSpec : ChangeSpec := { name := "postLock", fn := fun _ => fun
  | [d1, d2] => { results := [.lit (.bool true)], args := [d1, d2] }
  | _ => none }
def postLockRow : OpenClaim := { program := "ytjipjhmcpjffcac", sum := "028005791451011cc78967bd89000ed6c1cf9b26d83990b801a2dddc350aa0b3", func := "weighbridge/weighbridgelaw20.PostLock", spec := "postLock", unfollowed := true, recurses := true, plainKeys := false, apart := false }
def PostLockSaid : Prop := postLockRow.holds Try.pinned (OpenSpec.ofChange postLockSpec)

/-- ITS FALSE NEIGHBOUR: 'it returns false'. Refute it at one input. -/
def postLockWrong : ChangeSpec := { name := "postLock", fn := fun _ => fun
  | [d1, d2] => { results := [.lit (.bool false)], args := [d1, d2] }
  | _ => none }
def PostLockWrongFalsely : Prop := postLockRow.holds Try.pinned (OpenSpec.ofChange postLockWrong)

/-- 'weighbridgelaw20.PostPlays': WHATEVER THE INPUT: true; the input reads as it did. -/
def postPlaysSpec : ChangeSpec := { name := "postPlays", fn := fun _ => fun
  | [d1, d2] => { results := [.lit (.bool true)], args := [d1, d2] }
  | _ => none }
def postPlaysRow : OpenClaim := { program := "ytjipjhmcpjffcac", sum := "028005791451011cc78967bd89000ed6c1cf9b26d83990b801a2dddc350aa0b3", func := "weighbridge/weighbridgelaw20.PostPlays", spec := "postPlays", unfollowed := true, recurses := true, plainKeys := false, apart := false }
def PostPlaysSaid : Prop := postPlaysRow.holds Try.pinned (OpenSpec.ofChange postPlaysSpec)

/-- ITS FALSE NEIGHBOUR: 'it returns false'. Refute it at one input. -/
def postPlaysWrong : ChangeSpec := { name := "postPlays", fn := fun _ => fun
  | [d1, d2] => { results := [.lit (.bool false)], args := [d1, d2] }
  | _ => none }
def PostPlaysWrongFalsely : Prop := postPlaysRow.holds Try.pinned (OpenSpec.ofChange postPlaysWrong)

/-- 'weighbridgelaw20.PostOrder': WHATEVER THE INPUT: true; the input reads as it did. -/
def postOrderSpec : ChangeSpec := { name := "postOrder", fn := fun _ => fun
  | [d1, d2, d3] => { results := [.lit (.bool true)], args := [d1, d2, d3] }
  | _ => none }
def postOrderRow : OpenClaim := { program := "ytjipjhmcpjffcac", sum := "028005791451011cc78967bd89000ed6c1cf9b26d83990b801a2dddc350aa0b3", func := "weighbridge/weighbridgelaw20.PostOrder", spec := "postOrder", unfollowed := true, recurses := true, plainKeys := false, apart := false }
def PostOrderSaid : Prop := postOrderRow.holds Try.pinned (OpenSpec.ofChange postOrderSpec)

/-- ITS FALSE NEIGHBOUR: 'it returns false'. Refute it at one input. -/
def postOrderWrong : ChangeSpec := { name := "postOrder", fn := fun _ => fun
  | [d1, d2, d3] => { results := [.lit (.bool false)], args := [d1, d2, d3] }
  | _ => none }
def PostOrderWrongFalsely : Prop := postOrderRow.holds Try.pinned (OpenSpec.ofChange postOrderWrong)

/-- 'weighbridgelaw20.PostApart': WHATEVER THE INPUT: true; the input reads as it did. -/
def postApartSpec : ChangeSpec := { name := "postApart", fn := fun _ => fun
  | [d1, d2, d3, d4] => { results := [.lit (.bool true)], args := [d1, d2, d3, d4] }
  | _ => none }
def postApartRow : OpenClaim := { program := "ytjipjhmcpjffcac", sum := "028005791451011cc78967bd89000ed6c1cf9b26d83990b801a2dddc350aa0b3", func := "weighbridge/weighbridgelaw20.PostApart", spec := "postApart", unfollowed := true, recurses := true, plainKeys := false, apart := false }
def PostApartSaid : Prop := postApartRow.holds Try.pinned (OpenSpec.ofChange postApartSpec)

/-- ITS FALSE NEIGHBOUR: 'it returns false'. Refute it at one input. -/
def postApartWrong : ChangeSpec := { name := "postApart", fn := fun _ => fun
  | [d1, d2, d3, d4] => { results := [.lit (.bool false)], args := [d1, d2, d3, d4] }
  | _ => none }
def PostApartWrongFalsely : Prop := postApartRow.holds Try.pinned (OpenSpec.ofChange postApartWrong)

/- THE SECOND FORM. 'bulk': how many values and letters a reading holds, each counted each time it is reached (what is shared counts as often as it is met; a slice's spare places count too). A statement '..UptoSaid' is the law's where the arguments, and the package variables that the reading takes, are together of bulk at most 1048576: NARROWER than '..Said'. Prove '..Said' where nothing that the law and all that it calls make is longer than what came in: it says more and counts as full. Else prove '..UptoSaid'. A law counts once. -/
mutual
def uptoBulk {H : Type} : DataW H → Nat
  | .lit (.string bytes) => bytes.length + 1
  | .lit _ => 1
  | .nil => 1
  | .ptr d => uptoBulk d + 1
  | .slice elems spare => uptoBulkAll elems + uptoBulkAll spare + 1
  | .agg parts => uptoBulkAll parts + 1
  | .iface _ d => uptoBulk d + 1
  | .map entries => uptoBulkEntries entries + 1
  | .held _ => 1
def uptoBulkAll {H : Type} : List (DataW H) → Nat
  | [] => 0
  | d :: r => uptoBulk d + uptoBulkAll r
def uptoBulkEntries {H : Type} : List (Lit × DataW H) → Nat
  | [] => 0
  | x :: r => uptoBulkEntry x + uptoBulkEntries r
def uptoBulkEntry {H : Type} : Lit × DataW H → Nat
  | (.string bytes, d) => bytes.length + uptoBulk d + 1
  | (_, d) => uptoBulk d + 1
 end
def uptoSmall : (H : Type) → List (DataW H) → Bool := fun _ ds => decide (uptoBulkAll ds ≤ 1048576)
def OpenSpec.upto (s : _root_.Go.ChangeSpec) : _root_.Go.OpenSpec := { _root_.Go.OpenSpec.ofChange s with cond := some uptoSmall }

/-- 'weighbridgelaw20.PostServes', WHERE WHAT IT READS IS OF BULK AT MOST 1048576: true; the input reads as it did. -/
def postServesUptoRow : OpenClaim := { program := "ytjipjhmcpjffcac", sum := "028005791451011cc78967bd89000ed6c1cf9b26d83990b801a2dddc350aa0b3", func := "weighbridge/weighbridgelaw20.PostServes", spec := "postServes", unfollowed := true, recurses := true, plainKeys := false, apart := false, narrowed := true }
def PostServesUptoSaid : Prop := postServesUptoRow.holds Try.pinned (OpenSpec.upto postServesSpec)

/-- 'weighbridgelaw20.PostKept', WHERE WHAT IT READS IS OF BULK AT MOST 1048576: true; the input reads as it did. -/
def postKeptUptoRow : OpenClaim := { program := "ytjipjhmcpjffcac", sum := "028005791451011cc78967bd89000ed6c1cf9b26d83990b801a2dddc350aa0b3", func := "weighbridge/weighbridgelaw20.PostKept", spec := "postKept", unfollowed := true, recurses := true, plainKeys := false, apart := false, narrowed := true }
def PostKeptUptoSaid : Prop := postKeptUptoRow.holds Try.pinned (OpenSpec.upto postKeptSpec)

/-- 'weighbridgelaw20.PostLock', WHERE WHAT IT READS IS OF BULK AT MOST 1048576: true; the input reads as it did. -/
def postLockUptoRow : OpenClaim := { program := "ytjipjhmcpjffcac", sum := "028005791451011cc78967bd89000ed6c1cf9b26d83990b801a2dddc350aa0b3", func := "weighbridge/weighbridgelaw20.PostLock", spec := "postLock", unfollowed := true, recurses := true, plainKeys := false, apart := false, narrowed := true }
def PostLockUptoSaid : Prop := postLockUptoRow.holds Try.pinned (OpenSpec.upto postLockSpec)

/-- 'weighbridgelaw20.PostPlays', WHERE WHAT IT READS IS OF BULK AT MOST 1048576: true; the input reads as it did. -/
def postPlaysUptoRow : OpenClaim := { program := "ytjipjhmcpjffcac", sum := "028005791451011cc78967bd89000ed6c1cf9b26d83990b801a2dddc350aa0b3", func := "weighbridge/weighbridgelaw20.PostPlays", spec := "postPlays", unfollowed := true, recurses := true, plainKeys := false, apart := false, narrowed := true }
def PostPlaysUptoSaid : Prop := postPlaysUptoRow.holds Try.pinned (OpenSpec.upto postPlaysSpec)

/-- 'weighbridgelaw20.PostOrder', WHERE WHAT IT READS IS OF BULK AT MOST 1048576: true; the input reads as it did. -/
def postOrderUptoRow : OpenClaim := { program := "ytjipjhmcpjffcac", sum := "028005791451011cc78967bd89000ed6c1cf9b26d83990b801a2dddc350aa0b3", func := "weighbridge/weighbridgelaw20.PostOrder", spec := "postOrder", unfollowed := true, recurses := true, plainKeys := false, apart := false, narrowed := true }
def PostOrderUptoSaid : Prop := postOrderUptoRow.holds Try.pinned (OpenSpec.upto postOrderSpec)

/-- 'weighbridgelaw20.PostApart', WHERE WHAT IT READS IS OF BULK AT MOST 1048576: true; the input reads as it did. -/
def postApartUptoRow : OpenClaim := { program := "ytjipjhmcpjffcac", sum := "028005791451011cc78967bd89000ed6c1cf9b26d83990b801a2dddc350aa0b3", func := "weighbridge/weighbridgelaw20.PostApart", spec := "postApart", unfollowed := true, recurses := true, plainKeys := false, apart := false, narrowed := true }
def PostApartUptoSaid : Prop := postApartUptoRow.holds Try.pinned (OpenSpec.upto postApartSpec)

end Rows
end Go.Proofs.Ytjipjhmcpjffcac
