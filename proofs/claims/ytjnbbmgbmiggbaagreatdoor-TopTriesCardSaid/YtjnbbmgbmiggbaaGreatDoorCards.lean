/-
  DERIVED. GIVEN WITH THE SEED: THE CARDS: each row of YtjnbbmgbmiggbaaGreatDoorRows.lean that lists a variable, with what it lists TIED to the program's text (the seventh form; the later family's looks); each row that meets fmt, with fmt's text TOLD by the authors' own Lean function (tested against real Go, not proved from fmt's source: count such statements apart). THE CARD IS WHAT COUNTS. Prove the row's statement (the work); the ties are given (YtjnbbmgbmiggbaaGreatDoorTie.lean); close each card by the builder's one call (the guide's Derived/Test/ToyasCard.lean, 'card_holds'). Laid BY PROGRAM, IN A SANDBOX (cutbox-door.mjs). By AI agents, Wed Nov 11 2026. No macro, syntax, notation, axiom, sorry.
-/
import Derived.Test.YtjnbbmgbmiggbaaGreatDoorRows
import GoSem.ClaimSeven
namespace Go.Proofs.YtjnbbmgbmiggbaaGreatDoor
namespace Rows

/-- THE TIED CARD OF 'weighbridgetop.TopTries'. -/
def topTriesCard : Claim7 := { stood := { row := topTriesRow, standIns := [], harness := (true, "a9c63863bfb7580fd84fc5dc7888c338143d09f5bab5fa1131230eb4a95bcf10"), looks := true }, kinds := [], alts := [], laidByText := true, laidKinds := [.data], laidTests := true, laidLooks := .later }
def TopTriesCardSaid : Prop := Claim7.holds Tryz.pinned (.plain (OpenSpec.ofChange topTriesSpec)) topTriesCard

/-- THE SECOND FORM's CARD OF 'weighbridgetop.TopTries'. -/
def topTriesUptoCard : Claim7 := { stood := { row := topTriesUptoRow, standIns := [], harness := (true, "a9c63863bfb7580fd84fc5dc7888c338143d09f5bab5fa1131230eb4a95bcf10"), looks := true }, kinds := [], alts := [], laidByText := true, laidKinds := [.data], laidTests := true, laidLooks := .later }
def TopTriesUptoCardSaid : Prop := Claim7.holds Tryz.pinned (.plain (OpenSpec.upto topTriesSpec)) topTriesUptoCard
end Rows
end Go.Proofs.YtjnbbmgbmiggbaaGreatDoor
