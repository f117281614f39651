/-
  DERIVED. GIVEN WITH THE SEED: THE CARDS: each row of YtnbmdecehlljcaaGreatDoorRows.lean that lists a variable, with what it lists TIED to the program's text (the seventh form; the later family's looks); each row that meets fmt, with fmt's text TOLD by the authors' own Lean function (tested against real Go, not proved from fmt's source: count such statements apart). THE CARD IS WHAT COUNTS. Prove the row's statement (the work); the ties are given (YtnbmdecehlljcaaGreatDoorTie.lean); close each card by the builder's one call (the guide's Derived/Test/ToyasCard.lean, 'card_holds'). Laid BY PROGRAM, IN A SANDBOX (cutbox-door.mjs). By AI agents, Wed Nov 11 2026. No macro, syntax, notation, axiom, sorry.
-/
import Derived.Test.YtnbmdecehlljcaaGreatDoorRows
import GoSem.ClaimSeven
namespace Go.Proofs.YtnbmdecehlljcaaGreatDoor
namespace Rows

/-- THE TIED CARD OF 'tithebarnlaw13.VersionPrint'. -/
def versionPrintCard : Claim7 := { stood := { row := versionPrintRow, standIns := [], harness := (true, "b20abce79faca7d592f8a1026c283efe26033b51a94ab2e4cefca50bd2624164"), looks := true }, kinds := [], alts := [], laidByText := true, laidKinds := [.data, .data, .data, .data, .sentinel, .sentinel, .pinned], laidTests := true, laidLooks := .later }
def VersionPrintCardSaid : Prop := Claim7.holds Tryz.pinned (.plain (OpenSpec.ofChange versionPrintSpec)) versionPrintCard

/-- THE TIED CARD OF 'tithebarnlaw13.VersionKnown'. -/
def versionKnownCard : Claim7 := { stood := { row := versionKnownRow, standIns := [], harness := (true, "b20abce79faca7d592f8a1026c283efe26033b51a94ab2e4cefca50bd2624164"), looks := true }, kinds := [], alts := [], laidByText := true, laidKinds := [.data, .data, .data, .data, .sentinel, .sentinel, .pinned], laidTests := true, laidLooks := .later }
def VersionKnownCardSaid : Prop := Claim7.holds Tryz.pinned (.plain (OpenSpec.ofChange versionKnownSpec)) versionKnownCard

/-- THE TIED CARD OF 'tithebarnlaw14.RangesParse'. -/
def rangesParseCard : Claim7 := { stood := { row := rangesParseRow, standIns := [], harness := (true, "b20abce79faca7d592f8a1026c283efe26033b51a94ab2e4cefca50bd2624164"), looks := true }, kinds := [], alts := [], laidByText := true, laidKinds := [.data, .data, .data, .data, .sentinel, .sentinel, .listed, .data, .pinned], laidTests := true, laidLooks := .later }
def RangesParseCardSaid : Prop := Claim7.holds Tryz.pinned (.plain (OpenSpec.ofChange rangesParseSpec)) rangesParseCard

/-- THE TIED CARD OF 'tithebarnlaw14.RangesPrint'. -/
def rangesPrintCard : Claim7 := { stood := { row := rangesPrintRow, standIns := [], harness := (true, "b20abce79faca7d592f8a1026c283efe26033b51a94ab2e4cefca50bd2624164"), looks := true }, kinds := [], alts := [], laidByText := true, laidKinds := [.data, .data, .data, .data, .sentinel, .sentinel, .listed, .data, .pinned], laidTests := true, laidLooks := .later }
def RangesPrintCardSaid : Prop := Claim7.holds Tryz.pinned (.plain (OpenSpec.ofChange rangesPrintSpec)) rangesPrintCard

/-- THE TIED CARD OF 'tithebarnlaw14.RangesAllows'. -/
def rangesAllowsCard : Claim7 := { stood := { row := rangesAllowsRow, standIns := [], harness := (true, "b20abce79faca7d592f8a1026c283efe26033b51a94ab2e4cefca50bd2624164"), looks := true }, kinds := [], alts := [], laidByText := true, laidKinds := [.data, .data, .data, .data, .sentinel, .sentinel, .listed, .data, .pinned], laidTests := true, laidLooks := .later }
def RangesAllowsCardSaid : Prop := Claim7.holds Tryz.pinned (.plain (OpenSpec.ofChange rangesAllowsSpec)) rangesAllowsCard

/-- THE TIED CARD OF 'tithebarnlaw14.RangesBack'. -/
def rangesBackCard : Claim7 := { stood := { row := rangesBackRow, standIns := [], harness := (true, "b20abce79faca7d592f8a1026c283efe26033b51a94ab2e4cefca50bd2624164"), looks := true }, kinds := [], alts := [], laidByText := true, laidKinds := [.data, .data, .data, .data, .sentinel, .sentinel, .listed, .data, .pinned], laidTests := true, laidLooks := .later }
def RangesBackCardSaid : Prop := Claim7.holds Tryz.pinned (.plain (OpenSpec.ofChange rangesBackSpec)) rangesBackCard

/-- THE TIED CARD OF 'tithebarnlaw14.RangesApart'. -/
def rangesApartCard : Claim7 := { stood := { row := rangesApartRow, standIns := [], harness := (true, "b20abce79faca7d592f8a1026c283efe26033b51a94ab2e4cefca50bd2624164"), looks := true }, kinds := [], alts := [], laidByText := true, laidKinds := [.data, .data, .data, .data, .sentinel, .sentinel, .listed, .data, .pinned], laidTests := true, laidLooks := .later }
def RangesApartCardSaid : Prop := Claim7.holds Tryz.pinned (.plain (OpenSpec.ofChange rangesApartSpec)) rangesApartCard

/-- THE TIED CARD OF 'tithebarnlaw14.RangesKnown'. -/
def rangesKnownCard : Claim7 := { stood := { row := rangesKnownRow, standIns := [], harness := (true, "b20abce79faca7d592f8a1026c283efe26033b51a94ab2e4cefca50bd2624164"), looks := true }, kinds := [], alts := [], laidByText := true, laidKinds := [.data, .data, .data, .data, .sentinel, .sentinel, .listed, .data, .pinned], laidTests := true, laidLooks := .later }
def RangesKnownCardSaid : Prop := Claim7.holds Tryz.pinned (.plain (OpenSpec.ofChange rangesKnownSpec)) rangesKnownCard

/-- THE SECOND FORM's CARD OF 'tithebarnlaw13.VersionPrint'. -/
def versionPrintUptoCard : Claim7 := { stood := { row := versionPrintUptoRow, standIns := [], harness := (true, "b20abce79faca7d592f8a1026c283efe26033b51a94ab2e4cefca50bd2624164"), looks := true }, kinds := [], alts := [], laidByText := true, laidKinds := [.data, .data, .data, .data, .sentinel, .sentinel, .pinned], laidTests := true, laidLooks := .later }
def VersionPrintUptoCardSaid : Prop := Claim7.holds Tryz.pinned (.plain (OpenSpec.upto versionPrintSpec)) versionPrintUptoCard

/-- THE SECOND FORM's CARD OF 'tithebarnlaw13.VersionKnown'. -/
def versionKnownUptoCard : Claim7 := { stood := { row := versionKnownUptoRow, standIns := [], harness := (true, "b20abce79faca7d592f8a1026c283efe26033b51a94ab2e4cefca50bd2624164"), looks := true }, kinds := [], alts := [], laidByText := true, laidKinds := [.data, .data, .data, .data, .sentinel, .sentinel, .pinned], laidTests := true, laidLooks := .later }
def VersionKnownUptoCardSaid : Prop := Claim7.holds Tryz.pinned (.plain (OpenSpec.upto versionKnownSpec)) versionKnownUptoCard

/-- THE SECOND FORM's CARD OF 'tithebarnlaw14.RangesParse'. -/
def rangesParseUptoCard : Claim7 := { stood := { row := rangesParseUptoRow, standIns := [], harness := (true, "b20abce79faca7d592f8a1026c283efe26033b51a94ab2e4cefca50bd2624164"), looks := true }, kinds := [], alts := [], laidByText := true, laidKinds := [.data, .data, .data, .data, .sentinel, .sentinel, .listed, .data, .pinned], laidTests := true, laidLooks := .later }
def RangesParseUptoCardSaid : Prop := Claim7.holds Tryz.pinned (.plain (OpenSpec.upto rangesParseSpec)) rangesParseUptoCard

/-- THE SECOND FORM's CARD OF 'tithebarnlaw14.RangesPrint'. -/
def rangesPrintUptoCard : Claim7 := { stood := { row := rangesPrintUptoRow, standIns := [], harness := (true, "b20abce79faca7d592f8a1026c283efe26033b51a94ab2e4cefca50bd2624164"), looks := true }, kinds := [], alts := [], laidByText := true, laidKinds := [.data, .data, .data, .data, .sentinel, .sentinel, .listed, .data, .pinned], laidTests := true, laidLooks := .later }
def RangesPrintUptoCardSaid : Prop := Claim7.holds Tryz.pinned (.plain (OpenSpec.upto rangesPrintSpec)) rangesPrintUptoCard

/-- THE SECOND FORM's CARD OF 'tithebarnlaw14.RangesAllows'. -/
def rangesAllowsUptoCard : Claim7 := { stood := { row := rangesAllowsUptoRow, standIns := [], harness := (true, "b20abce79faca7d592f8a1026c283efe26033b51a94ab2e4cefca50bd2624164"), looks := true }, kinds := [], alts := [], laidByText := true, laidKinds := [.data, .data, .data, .data, .sentinel, .sentinel, .listed, .data, .pinned], laidTests := true, laidLooks := .later }
def RangesAllowsUptoCardSaid : Prop := Claim7.holds Tryz.pinned (.plain (OpenSpec.upto rangesAllowsSpec)) rangesAllowsUptoCard

/-- THE SECOND FORM's CARD OF 'tithebarnlaw14.RangesBack'. -/
def rangesBackUptoCard : Claim7 := { stood := { row := rangesBackUptoRow, standIns := [], harness := (true, "b20abce79faca7d592f8a1026c283efe26033b51a94ab2e4cefca50bd2624164"), looks := true }, kinds := [], alts := [], laidByText := true, laidKinds := [.data, .data, .data, .data, .sentinel, .sentinel, .listed, .data, .pinned], laidTests := true, laidLooks := .later }
def RangesBackUptoCardSaid : Prop := Claim7.holds Tryz.pinned (.plain (OpenSpec.upto rangesBackSpec)) rangesBackUptoCard

/-- THE SECOND FORM's CARD OF 'tithebarnlaw14.RangesApart'. -/
def rangesApartUptoCard : Claim7 := { stood := { row := rangesApartUptoRow, standIns := [], harness := (true, "b20abce79faca7d592f8a1026c283efe26033b51a94ab2e4cefca50bd2624164"), looks := true }, kinds := [], alts := [], laidByText := true, laidKinds := [.data, .data, .data, .data, .sentinel, .sentinel, .listed, .data, .pinned], laidTests := true, laidLooks := .later }
def RangesApartUptoCardSaid : Prop := Claim7.holds Tryz.pinned (.plain (OpenSpec.upto rangesApartSpec)) rangesApartUptoCard

/-- THE SECOND FORM's CARD OF 'tithebarnlaw14.RangesKnown'. -/
def rangesKnownUptoCard : Claim7 := { stood := { row := rangesKnownUptoRow, standIns := [], harness := (true, "b20abce79faca7d592f8a1026c283efe26033b51a94ab2e4cefca50bd2624164"), looks := true }, kinds := [], alts := [], laidByText := true, laidKinds := [.data, .data, .data, .data, .sentinel, .sentinel, .listed, .data, .pinned], laidTests := true, laidLooks := .later }
def RangesKnownUptoCardSaid : Prop := Claim7.holds Tryz.pinned (.plain (OpenSpec.upto rangesKnownSpec)) rangesKnownUptoCard
end Rows
end Go.Proofs.YtnbmdecehlljcaaGreatDoor
