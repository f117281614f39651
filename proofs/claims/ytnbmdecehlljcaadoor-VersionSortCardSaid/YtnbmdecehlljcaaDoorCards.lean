/-
  DERIVED. GIVEN WITH THE SEED: THE CARDS: each row of YtnbmdecehlljcaaDoorRows.lean that lists a variable, with what it lists TIED to the program's text (the seventh form; the later family's looks); each row that meets fmt, with fmt's text TOLD by the authors' own Lean function (tested against real Go, not proved from fmt's source: count such statements apart). THE CARD IS WHAT COUNTS. Prove the row's statement (the work); the ties are given (YtnbmdecehlljcaaDoorTie.lean); close each card by the builder's one call (the guide's Derived/Test/ToyasCard.lean, 'card_holds'). Laid BY PROGRAM, IN A SANDBOX (cutbox-door.mjs). By AI agents, Wed Nov 11 2026. No macro, syntax, notation, axiom, sorry.
-/
import Derived.Test.YtnbmdecehlljcaaDoorRows
import GoSem.ClaimSeven
namespace Go.Proofs.YtnbmdecehlljcaaDoor
namespace Rows

/-- THE TIED CARD OF 'tithebarnlaw13.VersionParse'. -/
def versionParseCard : Claim7 := { stood := { row := versionParseRow, standIns := [], harness := (true, "2eb41b44bd38d533ee32e8f56c0cbb4c2b64dff6fe5b93c059880452e8e08819"), looks := true }, kinds := [], alts := [], laidByText := true, laidKinds := [.data, .data, .data, .data, .sentinel, .sentinel, .pinned], laidTests := true, laidLooks := .later }
def VersionParseCardSaid : Prop := Claim7.holds Tryd.pinned (.plain (OpenSpec.ofChange versionParseSpec)) versionParseCard

/-- THE TIED CARD OF 'tithebarnlaw13.VersionCompare'. -/
def versionCompareCard : Claim7 := { stood := { row := versionCompareRow, standIns := [], harness := (true, "2eb41b44bd38d533ee32e8f56c0cbb4c2b64dff6fe5b93c059880452e8e08819"), looks := true }, kinds := [], alts := [], laidByText := true, laidKinds := [.data, .data, .data, .data, .sentinel, .sentinel, .pinned], laidTests := true, laidLooks := .later }
def VersionCompareCardSaid : Prop := Claim7.holds Tryd.pinned (.plain (OpenSpec.ofChange versionCompareSpec)) versionCompareCard

/-- THE TIED CARD OF 'tithebarnlaw13.VersionOrder'. -/
def versionOrderCard : Claim7 := { stood := { row := versionOrderRow, standIns := [], harness := (true, "2eb41b44bd38d533ee32e8f56c0cbb4c2b64dff6fe5b93c059880452e8e08819"), looks := true }, kinds := [], alts := [], laidByText := true, laidKinds := [.data, .data, .data, .data, .sentinel, .sentinel, .pinned], laidTests := true, laidLooks := .later }
def VersionOrderCardSaid : Prop := Claim7.holds Tryd.pinned (.plain (OpenSpec.ofChange versionOrderSpec)) versionOrderCard

/-- THE TIED CARD OF 'tithebarnlaw13.VersionSort'. -/
def versionSortCard : Claim7 := { stood := { row := versionSortRow, standIns := [], harness := (true, "2eb41b44bd38d533ee32e8f56c0cbb4c2b64dff6fe5b93c059880452e8e08819"), looks := true }, kinds := [], alts := [], laidByText := true, laidKinds := [.data, .data, .data, .data, .sentinel, .sentinel, .pinned], laidTests := true, laidLooks := .later }
def VersionSortCardSaid : Prop := Claim7.holds Tryd.pinned (.plain (OpenSpec.ofChange versionSortSpec)) versionSortCard

/-- THE TIED CARD OF 'tithebarnlaw13.VersionBack'. -/
def versionBackCard : Claim7 := { stood := { row := versionBackRow, standIns := [], harness := (true, "2eb41b44bd38d533ee32e8f56c0cbb4c2b64dff6fe5b93c059880452e8e08819"), looks := true }, kinds := [], alts := [], laidByText := true, laidKinds := [.data, .data, .data, .data, .sentinel, .sentinel, .pinned], laidTests := true, laidLooks := .later }
def VersionBackCardSaid : Prop := Claim7.holds Tryd.pinned (.plain (OpenSpec.ofChange versionBackSpec)) versionBackCard

/-- THE SECOND FORM's CARD OF 'tithebarnlaw13.VersionParse'. -/
def versionParseUptoCard : Claim7 := { stood := { row := versionParseUptoRow, standIns := [], harness := (true, "2eb41b44bd38d533ee32e8f56c0cbb4c2b64dff6fe5b93c059880452e8e08819"), looks := true }, kinds := [], alts := [], laidByText := true, laidKinds := [.data, .data, .data, .data, .sentinel, .sentinel, .pinned], laidTests := true, laidLooks := .later }
def VersionParseUptoCardSaid : Prop := Claim7.holds Tryd.pinned (.plain (OpenSpec.upto versionParseSpec)) versionParseUptoCard

/-- THE SECOND FORM's CARD OF 'tithebarnlaw13.VersionCompare'. -/
def versionCompareUptoCard : Claim7 := { stood := { row := versionCompareUptoRow, standIns := [], harness := (true, "2eb41b44bd38d533ee32e8f56c0cbb4c2b64dff6fe5b93c059880452e8e08819"), looks := true }, kinds := [], alts := [], laidByText := true, laidKinds := [.data, .data, .data, .data, .sentinel, .sentinel, .pinned], laidTests := true, laidLooks := .later }
def VersionCompareUptoCardSaid : Prop := Claim7.holds Tryd.pinned (.plain (OpenSpec.upto versionCompareSpec)) versionCompareUptoCard

/-- THE SECOND FORM's CARD OF 'tithebarnlaw13.VersionOrder'. -/
def versionOrderUptoCard : Claim7 := { stood := { row := versionOrderUptoRow, standIns := [], harness := (true, "2eb41b44bd38d533ee32e8f56c0cbb4c2b64dff6fe5b93c059880452e8e08819"), looks := true }, kinds := [], alts := [], laidByText := true, laidKinds := [.data, .data, .data, .data, .sentinel, .sentinel, .pinned], laidTests := true, laidLooks := .later }
def VersionOrderUptoCardSaid : Prop := Claim7.holds Tryd.pinned (.plain (OpenSpec.upto versionOrderSpec)) versionOrderUptoCard

/-- THE SECOND FORM's CARD OF 'tithebarnlaw13.VersionSort'. -/
def versionSortUptoCard : Claim7 := { stood := { row := versionSortUptoRow, standIns := [], harness := (true, "2eb41b44bd38d533ee32e8f56c0cbb4c2b64dff6fe5b93c059880452e8e08819"), looks := true }, kinds := [], alts := [], laidByText := true, laidKinds := [.data, .data, .data, .data, .sentinel, .sentinel, .pinned], laidTests := true, laidLooks := .later }
def VersionSortUptoCardSaid : Prop := Claim7.holds Tryd.pinned (.plain (OpenSpec.upto versionSortSpec)) versionSortUptoCard

/-- THE SECOND FORM's CARD OF 'tithebarnlaw13.VersionBack'. -/
def versionBackUptoCard : Claim7 := { stood := { row := versionBackUptoRow, standIns := [], harness := (true, "2eb41b44bd38d533ee32e8f56c0cbb4c2b64dff6fe5b93c059880452e8e08819"), looks := true }, kinds := [], alts := [], laidByText := true, laidKinds := [.data, .data, .data, .data, .sentinel, .sentinel, .pinned], laidTests := true, laidLooks := .later }
def VersionBackUptoCardSaid : Prop := Claim7.holds Tryd.pinned (.plain (OpenSpec.upto versionBackSpec)) versionBackUptoCard
end Rows
end Go.Proofs.YtnbmdecehlljcaaDoor
