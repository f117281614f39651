-- Laid by a program of this session (wip/tools/pgiven.py) out of the seat's translation. Lean checks it.
import Derived.Test.YtnbmdecehlljcaaDoorProg
import Derived.Below
import Derived.Deep.Draws
import Derived.Deep.AppendLies
import Derived.Maps.AppendAt
import Derived.OwnWalk
import Derived.Laws.BytesArg
import Derived.Laws.MakeOwn
import Derived.Laws.OwnMore
import Derived.Deep.OwnRows
import Derived.Tactics
import Derived.Lib.ConvBytes
import Derived.Laws.Slices
import Derived.WalkKit
import Derived.KernelRfl
import Derived.RowKit3
import Derived.Deep.LoopGhost
import Derived.Deep.QuietTactic
import Derived.BigQuiet
import Derived.WideLaws
import Derived.Deep.DeepCutAuto
import Derived.Deep.CutBlock
import Derived.Deep.RegionHeld3
import Derived.Laws.Rows
import Derived.Lib.AppendStr
import Derived.ArgAppend
import Derived.Laws.IdiomCopy
import Derived.OrdersHeld
import Derived.Laws.BitsLemmas
import Derived.RowKit
import Derived.Test.YtnbmdecehlljcaaDoorWWords
import Derived.Test.YtnbmdecehlljcaaDoorWLast
import Derived.Test.YtnbmdecehlljcaaDoorWTab
import Derived.Test.YtnbmdecehlljcaaDoorWQPut
import Derived.Test.YtnbmdecehlljcaaDoorWApart
import Derived.Test.YtnbmdecehlljcaaDoorWArr
import Derived.Test.YtnbmdecehlljcaaDoorWZeros
import Derived.Test.YtnbmdecehlljcaaDoorWFoot
import Derived.Test.YtnbmdecehlljcaaDoorWKept
import Derived.Test.YtnbmdecehlljcaaDoorWShare
import Derived.Test.YtnbmdecehlljcaaDoorWN
import Derived.Test.YtnbmdecehlljcaaDoorWInv
import Derived.Test.YtnbmdecehlljcaaDoorWNEv
import Derived.Test.YtnbmdecehlljcaaDoorWMore
namespace Go.Proofs.YtnbmdecehlljcaaDoor.PBase
open Go.RowKit Go.Proofs.YtnbmdecehlljcaaDoorW.PrintWords Go.Proofs.YtnbmdecehlljcaaDoorW.PrintLast Go.Proofs.YtnbmdecehlljcaaDoorW.PrintMore
attribute [local go_sem] max2_int min2_int max_two min_two max_three min_three max_four min_four   -- for this text's walks alone
set_option linter.unusedVariables false
set_option linter.unusedSimpArgs false



def errW : Option Int → Value
  | none => .nilIface
  | some c => .iface 0 (.int .i64 c)
theorem errW_none : errW none = .nilIface := rfl
theorem errW_some (c : Int) : errW (some c) = .iface 0 (.int .i64 c) := rfl

-- the values' own types

end Go.Proofs.YtnbmdecehlljcaaDoor.PBase
