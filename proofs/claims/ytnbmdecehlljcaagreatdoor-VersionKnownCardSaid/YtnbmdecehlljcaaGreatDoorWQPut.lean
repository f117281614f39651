-- Printed by print.sh, cut down by wip/tools/slimwords.py: what this claim does not name is left out
import Derived.Test.YtnbmdecehlljcaaGreatDoorWWords
import Derived.Test.YtnbmdecehlljcaaGreatDoorWLast
namespace Go.Proofs.YtnbmdecehlljcaaGreatDoorW.PrintWords
open Go.RowKit
namespace Kd
section
variable {α : Type} {d : Kd α} {e base g o n cap : Nat} {ok okp : Nat → Prop} {w W : World} {v : Value} {xs : List α}
end
section
variable {α : Type} {enc : α → Value} {h1 : ∀ x, (enc x).oneCell' = true} {e base g o n cap : Nat} {ok : Nat → Prop} {W : World} {xs : List α}
end
end Kd
end Go.Proofs.YtnbmdecehlljcaaGreatDoorW.PrintWords
