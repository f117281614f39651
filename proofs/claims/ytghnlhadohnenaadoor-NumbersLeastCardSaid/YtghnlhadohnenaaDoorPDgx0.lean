-- Laid by a program of this session (wip/tools/pgiven.py) out of the seat's translation. Lean checks it.
import Derived.Test.YtghnlhadohnenaaDoorProg
import Derived.Below
import Derived.Deep.Draws
import Derived.Deep.AppendLies
import Derived.Maps.AppendAt
import Derived.OwnWalk
import Derived.Laws.BytesArg
import Derived.Laws.MakeOwn
import Derived.Laws.OwnMore
import Derived.Deep.OwnRows
import Derived.Tactics
import Derived.Lib.ConvBytes
import Derived.Laws.Slices
import Derived.WalkKit
import Derived.KernelRfl
import Derived.RowKit3
import Derived.Deep.LoopGhost
import Derived.Deep.QuietTactic
import Derived.BigQuiet
import Derived.WideLaws
import Derived.Deep.DeepCutAuto
import Derived.Deep.CutBlock
import Derived.Deep.RegionHeld3
import Derived.Laws.Rows
import Derived.Lib.AppendStr
import Derived.ArgAppend
import Derived.Laws.IdiomCopy
import Derived.OrdersHeld
import Derived.Laws.BitsLemmas
import Derived.RowKit
import Derived.Test.YtghnlhadohnenaaDoorWWords
import Derived.Test.YtghnlhadohnenaaDoorWLast
import Derived.Test.YtghnlhadohnenaaDoorWTab
import Derived.Test.YtghnlhadohnenaaDoorWQPut
import Derived.Test.YtghnlhadohnenaaDoorWApart
import Derived.Test.YtghnlhadohnenaaDoorWArr
import Derived.Test.YtghnlhadohnenaaDoorWZeros
import Derived.Test.YtghnlhadohnenaaDoorWFoot
import Derived.Test.YtghnlhadohnenaaDoorWKept
import Derived.Test.YtghnlhadohnenaaDoorWShare
import Derived.Test.YtghnlhadohnenaaDoorWN
import Derived.Test.YtghnlhadohnenaaDoorWRepsOne
import Derived.Test.YtghnlhadohnenaaDoorWNEv
import Derived.Test.YtghnlhadohnenaaDoorWMore
namespace Go.Proofs.YtghnlhadohnenaaDoor.PDg
open Go.RowKit Go.Proofs.YtghnlhadohnenaaDoorW.PrintWords Go.Proofs.YtghnlhadohnenaaDoorW.PrintLast Go.Proofs.YtghnlhadohnenaaDoorW.PrintMore
attribute [local go_sem] max2_int min2_int max_two min_two max_three min_three max_four min_four   -- for this text's walks alone
set_option linter.unusedVariables false
set_option linter.unusedSimpArgs false



def errW : Option Int → Value
  | none => .nilIface
  | some c => .iface 0 (.int .i64 c)
theorem errW_none : errW none = .nilIface := rfl
theorem errW_some (c : Int) : errW (some c) = .iface 0 (.int .i64 c) := rfl

theorem info5 : (Tryd.prog.info? 5).map (fun i => (i.zero, i.size, i.bytes)) = some (some (.int .u8 0), 1, 1) := by kernel_rfl
-- the values' own types

end Go.Proofs.YtghnlhadohnenaaDoor.PDg
