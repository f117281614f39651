/-
  DERIVED. GIVEN WITH THE SEED: THE CARDS: each row of YtghnlhadohnenaaGreatDoorRows.lean that lists a variable, with what it lists TIED to the program's text (the seventh form; the later family's looks); each row that meets fmt, with fmt's text TOLD by the authors' own Lean function (tested against real Go, not proved from fmt's source: count such statements apart). THE CARD IS WHAT COUNTS. Prove the row's statement (the work); the ties are given (YtghnlhadohnenaaGreatDoorTie.lean); close each card by the builder's one call (the guide's Derived/Test/ToyasCard.lean, 'card_holds'). Laid BY PROGRAM, IN A SANDBOX (cutbox-door.mjs). By AI agents, Wed Nov 11 2026. No macro, syntax, notation, axiom, sorry.
-/
import Derived.Test.YtghnlhadohnenaaGreatDoorRows
import GoSem.ClaimSeven
namespace Go.Proofs.YtghnlhadohnenaaGreatDoor
namespace Rows

/-- THE TIED CARD OF 'tithebarnlaw21.NumbersKnown'. -/
def numbersKnownCard : Claim7 := { stood := { row := numbersKnownRow, standIns := [], harness := (true, "b066c186ec7f1a678dfeb7554cb7074ab7c3f93eff65af455376877108ac62df"), looks := true }, kinds := [], alts := [], laidByText := true, laidKinds := [.data, .data, .data, .sentinel, .sentinel], laidTests := true, laidLooks := .later }
def NumbersKnownCardSaid : Prop := Claim7.holds Tryz.pinned (.plain (OpenSpec.ofChange numbersKnownSpec)) numbersKnownCard

/-- THE SECOND FORM's CARD OF 'tithebarnlaw21.NumbersKnown'. -/
def numbersKnownUptoCard : Claim7 := { stood := { row := numbersKnownUptoRow, standIns := [], harness := (true, "b066c186ec7f1a678dfeb7554cb7074ab7c3f93eff65af455376877108ac62df"), looks := true }, kinds := [], alts := [], laidByText := true, laidKinds := [.data, .data, .data, .sentinel, .sentinel], laidTests := true, laidLooks := .later }
def NumbersKnownUptoCardSaid : Prop := Claim7.holds Tryz.pinned (.plain (OpenSpec.upto numbersKnownSpec)) numbersKnownUptoCard
end Rows
end Go.Proofs.YtghnlhadohnenaaGreatDoor
