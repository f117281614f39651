/- Words that stand for a long proof that the print says again and again (their proofs are found at the place of use). -/
import Derived.Test.YtnbmdecehlljcaaGreatDoorWMore
namespace Go.Proofs.YtnbmdecehlljcaaGreatDoorW.PrintMore
open Go.RowKit Go.Proofs.YtnbmdecehlljcaaGreatDoorW.PrintWords Go.Proofs.YtnbmdecehlljcaaGreatDoorW.PrintLast
theorem tb {P : Prop} (h : P := by repeat (first | (with_reducible first | exact HB.out | apply below_alloc | apply pw_below_drewN | apply below_drew1 | refine below_set ?_ (Aside0.out (by assumption))) | exact HB.out)) : P := h
theorem tk {P : Prop} (h : P := by (with_reducible repeat (first | refine blk_drewN ?_ _ | refine blk_drew ?_ | refine blk_alloc ?_ _)); exact Aside0.out (by assumption)) : P := h
end Go.Proofs.YtnbmdecehlljcaaGreatDoorW.PrintMore
