/-
  DERIVED. GIVEN WITH THE SEED: THE CARDS: each row of YtghnlhadohnenaaDoorRows.lean that lists a variable, with what it lists TIED to the program's text (the seventh form; the later family's looks); each row that meets fmt, with fmt's text TOLD by the authors' own Lean function (tested against real Go, not proved from fmt's source: count such statements apart). THE CARD IS WHAT COUNTS. Prove the row's statement (the work); the ties are given (YtghnlhadohnenaaDoorTie.lean); close each card by the builder's one call (the guide's Derived/Test/ToyasCard.lean, 'card_holds'). Laid BY PROGRAM, IN A SANDBOX (cutbox-door.mjs). By AI agents, Wed Nov 11 2026. No macro, syntax, notation, axiom, sorry.
-/
import Derived.Test.YtghnlhadohnenaaDoorRows
import GoSem.ClaimSeven
namespace Go.Proofs.YtghnlhadohnenaaDoor
namespace Rows

/-- THE TIED CARD OF 'tithebarnlaw21.NumbersPrint'. -/
def numbersPrintCard : Claim7 := { stood := { row := numbersPrintRow, standIns := [], harness := (true, "aa2d9ee95a74b9cbee7d3919a5a5d902976635a1dec6d68a29090805b62c8bc7"), looks := true }, kinds := [], alts := [], laidByText := true, laidKinds := [.data, .data, .data, .sentinel, .sentinel], laidTests := true, laidLooks := .later }
def NumbersPrintCardSaid : Prop := Claim7.holds Tryd.pinned (.plain (OpenSpec.ofChange numbersPrintSpec)) numbersPrintCard

/-- THE TIED CARD OF 'tithebarnlaw21.NumbersParse'. -/
def numbersParseCard : Claim7 := { stood := { row := numbersParseRow, standIns := [], harness := (true, "aa2d9ee95a74b9cbee7d3919a5a5d902976635a1dec6d68a29090805b62c8bc7"), looks := true }, kinds := [], alts := [], laidByText := true, laidKinds := [.data, .data, .data, .sentinel, .sentinel], laidTests := true, laidLooks := .later }
def NumbersParseCardSaid : Prop := Claim7.holds Tryd.pinned (.plain (OpenSpec.ofChange numbersParseSpec)) numbersParseCard

/-- THE TIED CARD OF 'tithebarnlaw21.NumbersCompare'. -/
def numbersCompareCard : Claim7 := { stood := { row := numbersCompareRow, standIns := [], harness := (true, "aa2d9ee95a74b9cbee7d3919a5a5d902976635a1dec6d68a29090805b62c8bc7"), looks := true }, kinds := [], alts := [], laidByText := true, laidKinds := [.data, .data, .data, .sentinel, .sentinel], laidTests := true, laidLooks := .later }
def NumbersCompareCardSaid : Prop := Claim7.holds Tryd.pinned (.plain (OpenSpec.ofChange numbersCompareSpec)) numbersCompareCard

/-- THE TIED CARD OF 'tithebarnlaw21.NumbersOrder'. -/
def numbersOrderCard : Claim7 := { stood := { row := numbersOrderRow, standIns := [], harness := (true, "aa2d9ee95a74b9cbee7d3919a5a5d902976635a1dec6d68a29090805b62c8bc7"), looks := true }, kinds := [], alts := [], laidByText := true, laidKinds := [.data, .data, .data, .sentinel, .sentinel], laidTests := true, laidLooks := .later }
def NumbersOrderCardSaid : Prop := Claim7.holds Tryd.pinned (.plain (OpenSpec.ofChange numbersOrderSpec)) numbersOrderCard

/-- THE TIED CARD OF 'tithebarnlaw21.NumbersDo'. -/
def numbersDoCard : Claim7 := { stood := { row := numbersDoRow, standIns := [], harness := (true, "aa2d9ee95a74b9cbee7d3919a5a5d902976635a1dec6d68a29090805b62c8bc7"), looks := true }, kinds := [], alts := [], laidByText := true, laidKinds := [.data, .data, .data, .sentinel, .sentinel], laidTests := true, laidLooks := .later }
def NumbersDoCardSaid : Prop := Claim7.holds Tryd.pinned (.plain (OpenSpec.ofChange numbersDoSpec)) numbersDoCard

/-- THE TIED CARD OF 'tithebarnlaw21.NumbersLeast'. -/
def numbersLeastCard : Claim7 := { stood := { row := numbersLeastRow, standIns := [], harness := (true, "aa2d9ee95a74b9cbee7d3919a5a5d902976635a1dec6d68a29090805b62c8bc7"), looks := true }, kinds := [], alts := [], laidByText := true, laidKinds := [.data, .data, .data, .sentinel, .sentinel], laidTests := true, laidLooks := .later }
def NumbersLeastCardSaid : Prop := Claim7.holds Tryd.pinned (.plain (OpenSpec.ofChange numbersLeastSpec)) numbersLeastCard

/-- THE TIED CARD OF 'tithebarnlaw21.NumbersWhole'. -/
def numbersWholeCard : Claim7 := { stood := { row := numbersWholeRow, standIns := [], harness := (true, "aa2d9ee95a74b9cbee7d3919a5a5d902976635a1dec6d68a29090805b62c8bc7"), looks := true }, kinds := [], alts := [], laidByText := true, laidKinds := [.data, .data, .data, .sentinel, .sentinel], laidTests := true, laidLooks := .later }
def NumbersWholeCardSaid : Prop := Claim7.holds Tryd.pinned (.plain (OpenSpec.ofChange numbersWholeSpec)) numbersWholeCard

/-- THE SECOND FORM's CARD OF 'tithebarnlaw21.NumbersPrint'. -/
def numbersPrintUptoCard : Claim7 := { stood := { row := numbersPrintUptoRow, standIns := [], harness := (true, "aa2d9ee95a74b9cbee7d3919a5a5d902976635a1dec6d68a29090805b62c8bc7"), looks := true }, kinds := [], alts := [], laidByText := true, laidKinds := [.data, .data, .data, .sentinel, .sentinel], laidTests := true, laidLooks := .later }
def NumbersPrintUptoCardSaid : Prop := Claim7.holds Tryd.pinned (.plain (OpenSpec.upto numbersPrintSpec)) numbersPrintUptoCard

/-- THE SECOND FORM's CARD OF 'tithebarnlaw21.NumbersParse'. -/
def numbersParseUptoCard : Claim7 := { stood := { row := numbersParseUptoRow, standIns := [], harness := (true, "aa2d9ee95a74b9cbee7d3919a5a5d902976635a1dec6d68a29090805b62c8bc7"), looks := true }, kinds := [], alts := [], laidByText := true, laidKinds := [.data, .data, .data, .sentinel, .sentinel], laidTests := true, laidLooks := .later }
def NumbersParseUptoCardSaid : Prop := Claim7.holds Tryd.pinned (.plain (OpenSpec.upto numbersParseSpec)) numbersParseUptoCard

/-- THE SECOND FORM's CARD OF 'tithebarnlaw21.NumbersCompare'. -/
def numbersCompareUptoCard : Claim7 := { stood := { row := numbersCompareUptoRow, standIns := [], harness := (true, "aa2d9ee95a74b9cbee7d3919a5a5d902976635a1dec6d68a29090805b62c8bc7"), looks := true }, kinds := [], alts := [], laidByText := true, laidKinds := [.data, .data, .data, .sentinel, .sentinel], laidTests := true, laidLooks := .later }
def NumbersCompareUptoCardSaid : Prop := Claim7.holds Tryd.pinned (.plain (OpenSpec.upto numbersCompareSpec)) numbersCompareUptoCard

/-- THE SECOND FORM's CARD OF 'tithebarnlaw21.NumbersOrder'. -/
def numbersOrderUptoCard : Claim7 := { stood := { row := numbersOrderUptoRow, standIns := [], harness := (true, "aa2d9ee95a74b9cbee7d3919a5a5d902976635a1dec6d68a29090805b62c8bc7"), looks := true }, kinds := [], alts := [], laidByText := true, laidKinds := [.data, .data, .data, .sentinel, .sentinel], laidTests := true, laidLooks := .later }
def NumbersOrderUptoCardSaid : Prop := Claim7.holds Tryd.pinned (.plain (OpenSpec.upto numbersOrderSpec)) numbersOrderUptoCard

/-- THE SECOND FORM's CARD OF 'tithebarnlaw21.NumbersDo'. -/
def numbersDoUptoCard : Claim7 := { stood := { row := numbersDoUptoRow, standIns := [], harness := (true, "aa2d9ee95a74b9cbee7d3919a5a5d902976635a1dec6d68a29090805b62c8bc7"), looks := true }, kinds := [], alts := [], laidByText := true, laidKinds := [.data, .data, .data, .sentinel, .sentinel], laidTests := true, laidLooks := .later }
def NumbersDoUptoCardSaid : Prop := Claim7.holds Tryd.pinned (.plain (OpenSpec.upto numbersDoSpec)) numbersDoUptoCard

/-- THE SECOND FORM's CARD OF 'tithebarnlaw21.NumbersLeast'. -/
def numbersLeastUptoCard : Claim7 := { stood := { row := numbersLeastUptoRow, standIns := [], harness := (true, "aa2d9ee95a74b9cbee7d3919a5a5d902976635a1dec6d68a29090805b62c8bc7"), looks := true }, kinds := [], alts := [], laidByText := true, laidKinds := [.data, .data, .data, .sentinel, .sentinel], laidTests := true, laidLooks := .later }
def NumbersLeastUptoCardSaid : Prop := Claim7.holds Tryd.pinned (.plain (OpenSpec.upto numbersLeastSpec)) numbersLeastUptoCard

/-- THE SECOND FORM's CARD OF 'tithebarnlaw21.NumbersWhole'. -/
def numbersWholeUptoCard : Claim7 := { stood := { row := numbersWholeUptoRow, standIns := [], harness := (true, "aa2d9ee95a74b9cbee7d3919a5a5d902976635a1dec6d68a29090805b62c8bc7"), looks := true }, kinds := [], alts := [], laidByText := true, laidKinds := [.data, .data, .data, .sentinel, .sentinel], laidTests := true, laidLooks := .later }
def NumbersWholeUptoCardSaid : Prop := Claim7.holds Tryd.pinned (.plain (OpenSpec.upto numbersWholeSpec)) numbersWholeUptoCard
end Rows
end Go.Proofs.YtghnlhadohnenaaDoor
