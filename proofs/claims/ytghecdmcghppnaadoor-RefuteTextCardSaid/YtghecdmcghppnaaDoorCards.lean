/-
  DERIVED. GIVEN WITH THE SEED: THE CARDS: each row of YtghecdmcghppnaaDoorRows.lean that lists a variable, with what it lists TIED to the program's text (the seventh form; the later family's looks); each row that meets fmt, with fmt's text TOLD by the authors' own Lean function (tested against real Go, not proved from fmt's source: count such statements apart). THE CARD IS WHAT COUNTS. Prove the row's statement (the work); the ties are given (YtghecdmcghppnaaDoorTie.lean); close each card by the builder's one call (the guide's Derived/Test/ToyasCard.lean, 'card_holds'). Laid BY PROGRAM, IN A SANDBOX (cutbox-door.mjs). By AI agents, Wed Nov 11 2026. No macro, syntax, notation, axiom, sorry.
-/
import Derived.Test.YtghecdmcghppnaaDoorRows
import GoSem.ClaimSeven
namespace Go.Proofs.YtghecdmcghppnaaDoor
namespace Rows

/-- THE TIED CARD OF 'tithebarnlaw18.RefuteCheck'. -/
def refuteCheckCard : Claim7 := { stood := { row := refuteCheckRow, standIns := [], harness := (true, "06a6eb6edefa8f209da2013d5e498092d81055bb4d06d2ebe98f582937f3e305"), looks := true }, kinds := [], alts := [], laidByText := true, laidKinds := [.data, .data, .data, .data, .sentinel, .sentinel, .pinned], laidTests := true, laidLooks := .later }
def RefuteCheckCardSaid : Prop := Claim7.holds Tryd.pinned (.plain (OpenSpec.ofChange refuteCheckSpec)) refuteCheckCard

/-- THE TIED CARD OF 'tithebarnlaw18.RefuteTrim'. -/
def refuteTrimCard : Claim7 := { stood := { row := refuteTrimRow, standIns := [], harness := (true, "06a6eb6edefa8f209da2013d5e498092d81055bb4d06d2ebe98f582937f3e305"), looks := true }, kinds := [], alts := [], laidByText := true, laidKinds := [.data, .data, .data, .data, .sentinel, .sentinel, .pinned], laidTests := true, laidLooks := .later }
def RefuteTrimCardSaid : Prop := Claim7.holds Tryd.pinned (.plain (OpenSpec.ofChange refuteTrimSpec)) refuteTrimCard

/-- THE TIED CARD OF 'tithebarnlaw18.RefuteText'. -/
def refuteTextCard : Claim7 := { stood := { row := refuteTextRow, standIns := [], harness := (true, "06a6eb6edefa8f209da2013d5e498092d81055bb4d06d2ebe98f582937f3e305"), looks := true }, kinds := [], alts := [], laidByText := true, laidKinds := [.data, .data, .data, .data, .sentinel, .sentinel, .pinned], laidTests := true, laidLooks := .later }
def RefuteTextCardSaid : Prop := Claim7.holds Tryd.pinned (.plain (OpenSpec.ofChange refuteTextSpec)) refuteTextCard

/-- THE SECOND FORM's CARD OF 'tithebarnlaw18.RefuteCheck'. -/
def refuteCheckUptoCard : Claim7 := { stood := { row := refuteCheckUptoRow, standIns := [], harness := (true, "06a6eb6edefa8f209da2013d5e498092d81055bb4d06d2ebe98f582937f3e305"), looks := true }, kinds := [], alts := [], laidByText := true, laidKinds := [.data, .data, .data, .data, .sentinel, .sentinel, .pinned], laidTests := true, laidLooks := .later }
def RefuteCheckUptoCardSaid : Prop := Claim7.holds Tryd.pinned (.plain (OpenSpec.upto refuteCheckSpec)) refuteCheckUptoCard

/-- THE SECOND FORM's CARD OF 'tithebarnlaw18.RefuteTrim'. -/
def refuteTrimUptoCard : Claim7 := { stood := { row := refuteTrimUptoRow, standIns := [], harness := (true, "06a6eb6edefa8f209da2013d5e498092d81055bb4d06d2ebe98f582937f3e305"), looks := true }, kinds := [], alts := [], laidByText := true, laidKinds := [.data, .data, .data, .data, .sentinel, .sentinel, .pinned], laidTests := true, laidLooks := .later }
def RefuteTrimUptoCardSaid : Prop := Claim7.holds Tryd.pinned (.plain (OpenSpec.upto refuteTrimSpec)) refuteTrimUptoCard

/-- THE SECOND FORM's CARD OF 'tithebarnlaw18.RefuteText'. -/
def refuteTextUptoCard : Claim7 := { stood := { row := refuteTextUptoRow, standIns := [], harness := (true, "06a6eb6edefa8f209da2013d5e498092d81055bb4d06d2ebe98f582937f3e305"), looks := true }, kinds := [], alts := [], laidByText := true, laidKinds := [.data, .data, .data, .data, .sentinel, .sentinel, .pinned], laidTests := true, laidLooks := .later }
def RefuteTextUptoCardSaid : Prop := Claim7.holds Tryd.pinned (.plain (OpenSpec.upto refuteTextSpec)) refuteTextUptoCard
end Rows
end Go.Proofs.YtghecdmcghppnaaDoor
