/-
  No cell of these rows narrows 'for every input' (looked for: loops, veiled, ifaces, maps, wideKeys, modest, calm, conditions, laid).
  DERIVED. THE GIVEN ROWS OF THIS SEAT. 12 by the template 'for every input the law returns true; each argument reads behind the call as it read before'; 0 by the template 'total and deterministic' (their statements: YtjghhdgebmoohaaTotals.lean).
  GIVEN WITH THE SEED: the statements are not yours to turn. If you find one false, say at which input.
  Laid BY PROGRAM, IN A SANDBOX (cutbox-rows.mjs): the forced cells as the released guide's own fill.sh prints them over the translation a25da2aab3401b46… (all of the seat's roots in one cut). By AI agents, Wed Nov 11 2026. No macro, syntax, notation, axiom, sorry.
-/
import Derived.Test.YtjghhdgebmoohaaChecked
import GoSem.Claim
import GoSem.ClaimJoined
import GoSem.ClaimMapViews
import Derived.JoinedTies
import Derived.KernelRfl
namespace Go.Proofs.Ytjghhdgebmoohaa
/- THE CELL 'sum', in the pinned program and in every row, IS THE sha256 OF THE DUMP (.gsa) THAT YtjghhdgebmoohaaProg.lean LOADS. Nothing in Lean hashes anything: it is a label: what it is worth is what the hold of that sum in a sandbox is worth. -/
noncomputable def Try.pinned : Pinned := { name := "ytjghhdgebmoohaa", sum := "a25da2aab3401b469c718ed2954248de9d2243d91e0d79b1686a65e2805f1469", checked := Try.checked }
namespace Rows
def none {H : Type} : Left H := { results := [], args := [] }

/-- 'tithebarnlaw16.CnfCheck': WHATEVER THE INPUT: true; the input reads as it did. -/
def cnfCheckSpec : ChangeSpec := { name := "cnfCheck", fn := fun _ => fun
  | [d] => { results := [.lit (.bool true)], args := [d] }
  | _ => none }
def cnfCheckRow : OpenClaim := { program := "ytjghhdgebmoohaa", sum := "a25da2aab3401b469c718ed2954248de9d2243d91e0d79b1686a65e2805f1469", func := "tithebarn/tithebarnlaw16.CnfCheck", spec := "cnfCheck", unfollowed := true, recurses := true, apart := false }
def CnfCheckSaid : Prop := cnfCheckRow.holds Try.pinned (OpenSpec.ofChange cnfCheckSpec)

/-- ITS FALSE NEIGHBOUR: 'it returns false'. Refute it at one input. -/
def cnfCheckWrong : ChangeSpec := { name := "cnfCheck", fn := fun _ => fun
  | [d] => { results := [.lit (.bool false)], args := [d] }
  | _ => none }
def CnfCheckWrongFalsely : Prop := cnfCheckRow.holds Try.pinned (OpenSpec.ofChange cnfCheckWrong)

/-- 'tithebarnlaw16.CnfNorm': WHATEVER THE INPUT: true; the input reads as it did. -/
def cnfNormSpec : ChangeSpec := { name := "cnfNorm", fn := fun _ => fun
  | [d] => { results := [.lit (.bool true)], args := [d] }
  | _ => none }
def cnfNormRow : OpenClaim := { program := "ytjghhdgebmoohaa", sum := "a25da2aab3401b469c718ed2954248de9d2243d91e0d79b1686a65e2805f1469", func := "tithebarn/tithebarnlaw16.CnfNorm", spec := "cnfNorm", unfollowed := true, recurses := true, apart := false }
def CnfNormSaid : Prop := cnfNormRow.holds Try.pinned (OpenSpec.ofChange cnfNormSpec)

/-- ITS FALSE NEIGHBOUR: 'it returns false'. Refute it at one input. -/
def cnfNormWrong : ChangeSpec := { name := "cnfNorm", fn := fun _ => fun
  | [d] => { results := [.lit (.bool false)], args := [d] }
  | _ => none }
def CnfNormWrongFalsely : Prop := cnfNormRow.holds Try.pinned (OpenSpec.ofChange cnfNormWrong)

/-- 'tithebarnlaw16.CnfHolds': WHATEVER THE INPUT: true; the input reads as it did. -/
def cnfHoldsSpec : ChangeSpec := { name := "cnfHolds", fn := fun _ => fun
  | [d1, d2] => { results := [.lit (.bool true)], args := [d1, d2] }
  | _ => none }
def cnfHoldsRow : OpenClaim := { program := "ytjghhdgebmoohaa", sum := "a25da2aab3401b469c718ed2954248de9d2243d91e0d79b1686a65e2805f1469", func := "tithebarn/tithebarnlaw16.CnfHolds", spec := "cnfHolds", unfollowed := true, recurses := true, apart := false }
def CnfHoldsSaid : Prop := cnfHoldsRow.holds Try.pinned (OpenSpec.ofChange cnfHoldsSpec)

/-- ITS FALSE NEIGHBOUR: 'it returns false'. Refute it at one input. -/
def cnfHoldsWrong : ChangeSpec := { name := "cnfHolds", fn := fun _ => fun
  | [d1, d2] => { results := [.lit (.bool false)], args := [d1, d2] }
  | _ => none }
def CnfHoldsWrongFalsely : Prop := cnfHoldsRow.holds Try.pinned (OpenSpec.ofChange cnfHoldsWrong)

/-- 'tithebarnlaw16.CnfUnit': WHATEVER THE INPUT: true; the input reads as it did. -/
def cnfUnitSpec : ChangeSpec := { name := "cnfUnit", fn := fun _ => fun
  | [d1, d2] => { results := [.lit (.bool true)], args := [d1, d2] }
  | _ => none }
def cnfUnitRow : OpenClaim := { program := "ytjghhdgebmoohaa", sum := "a25da2aab3401b469c718ed2954248de9d2243d91e0d79b1686a65e2805f1469", func := "tithebarn/tithebarnlaw16.CnfUnit", spec := "cnfUnit", unfollowed := true, recurses := true, apart := false }
def CnfUnitSaid : Prop := cnfUnitRow.holds Try.pinned (OpenSpec.ofChange cnfUnitSpec)

/-- ITS FALSE NEIGHBOUR: 'it returns false'. Refute it at one input. -/
def cnfUnitWrong : ChangeSpec := { name := "cnfUnit", fn := fun _ => fun
  | [d1, d2] => { results := [.lit (.bool false)], args := [d1, d2] }
  | _ => none }
def CnfUnitWrongFalsely : Prop := cnfUnitRow.holds Try.pinned (OpenSpec.ofChange cnfUnitWrong)

/-- 'tithebarnlaw16.CnfSound': WHATEVER THE INPUT: true; the input reads as it did. -/
def cnfSoundSpec : ChangeSpec := { name := "cnfSound", fn := fun _ => fun
  | [d1, d2, d3] => { results := [.lit (.bool true)], args := [d1, d2, d3] }
  | _ => none }
def cnfSoundRow : OpenClaim := { program := "ytjghhdgebmoohaa", sum := "a25da2aab3401b469c718ed2954248de9d2243d91e0d79b1686a65e2805f1469", func := "tithebarn/tithebarnlaw16.CnfSound", spec := "cnfSound", unfollowed := true, recurses := true, apart := false }
def CnfSoundSaid : Prop := cnfSoundRow.holds Try.pinned (OpenSpec.ofChange cnfSoundSpec)

/-- ITS FALSE NEIGHBOUR: 'it returns false'. Refute it at one input. -/
def cnfSoundWrong : ChangeSpec := { name := "cnfSound", fn := fun _ => fun
  | [d1, d2, d3] => { results := [.lit (.bool false)], args := [d1, d2, d3] }
  | _ => none }
def CnfSoundWrongFalsely : Prop := cnfSoundRow.holds Try.pinned (OpenSpec.ofChange cnfSoundWrong)

/-- 'tithebarnlaw16.CnfNormal': WHATEVER THE INPUT: true; the input reads as it did. -/
def cnfNormalSpec : ChangeSpec := { name := "cnfNormal", fn := fun _ => fun
  | [d1, d2] => { results := [.lit (.bool true)], args := [d1, d2] }
  | _ => none }
def cnfNormalRow : OpenClaim := { program := "ytjghhdgebmoohaa", sum := "a25da2aab3401b469c718ed2954248de9d2243d91e0d79b1686a65e2805f1469", func := "tithebarn/tithebarnlaw16.CnfNormal", spec := "cnfNormal", unfollowed := true, recurses := true, apart := false }
def CnfNormalSaid : Prop := cnfNormalRow.holds Try.pinned (OpenSpec.ofChange cnfNormalSpec)

/-- ITS FALSE NEIGHBOUR: 'it returns false'. Refute it at one input. -/
def cnfNormalWrong : ChangeSpec := { name := "cnfNormal", fn := fun _ => fun
  | [d1, d2] => { results := [.lit (.bool false)], args := [d1, d2] }
  | _ => none }
def CnfNormalWrongFalsely : Prop := cnfNormalRow.holds Try.pinned (OpenSpec.ofChange cnfNormalWrong)

/-- 'tithebarnlaw16.CnfKnown': WHATEVER THE INPUT: true; the input reads as it did. -/
def cnfKnownSpec : ChangeSpec := { name := "cnfKnown", fn := fun _ => fun
  | [] => { results := [.lit (.bool true)], args := [] }
  | _ => none }
def cnfKnownRow : OpenClaim := { program := "ytjghhdgebmoohaa", sum := "a25da2aab3401b469c718ed2954248de9d2243d91e0d79b1686a65e2805f1469", func := "tithebarn/tithebarnlaw16.CnfKnown", spec := "cnfKnown", unfollowed := true, recurses := true, apart := false }
def CnfKnownSaid : Prop := cnfKnownRow.holds Try.pinned (OpenSpec.ofChange cnfKnownSpec)

/-- ITS FALSE NEIGHBOUR: 'it returns false'. Refute it at one input. -/
def cnfKnownWrong : ChangeSpec := { name := "cnfKnown", fn := fun _ => fun
  | [] => { results := [.lit (.bool false)], args := [] }
  | _ => none }
def CnfKnownWrongFalsely : Prop := cnfKnownRow.holds Try.pinned (OpenSpec.ofChange cnfKnownWrong)

/-- 'tithebarnlaw17.SatSolve': WHATEVER THE INPUT: true; the input reads as it did. -/
def satSolveSpec : ChangeSpec := { name := "satSolve", fn := fun _ => fun
  | [d] => { results := [.lit (.bool true)], args := [d] }
  | _ => none }
def satSolveRow : OpenClaim := { program := "ytjghhdgebmoohaa", sum := "a25da2aab3401b469c718ed2954248de9d2243d91e0d79b1686a65e2805f1469", func := "tithebarn/tithebarnlaw17.SatSolve", spec := "satSolve", unfollowed := true, recurses := true, apart := false }
def SatSolveSaid : Prop := satSolveRow.holds Try.pinned (OpenSpec.ofChange satSolveSpec)

/-- ITS FALSE NEIGHBOUR: 'it returns false'. Refute it at one input. -/
def satSolveWrong : ChangeSpec := { name := "satSolve", fn := fun _ => fun
  | [d] => { results := [.lit (.bool false)], args := [d] }
  | _ => none }
def SatSolveWrongFalsely : Prop := satSolveRow.holds Try.pinned (OpenSpec.ofChange satSolveWrong)

/-- 'tithebarnlaw17.SatTruth': WHATEVER THE INPUT: true; the input reads as it did. -/
def satTruthSpec : ChangeSpec := { name := "satTruth", fn := fun _ => fun
  | [d] => { results := [.lit (.bool true)], args := [d] }
  | _ => none }
def satTruthRow : OpenClaim := { program := "ytjghhdgebmoohaa", sum := "a25da2aab3401b469c718ed2954248de9d2243d91e0d79b1686a65e2805f1469", func := "tithebarn/tithebarnlaw17.SatTruth", spec := "satTruth", unfollowed := true, recurses := true, apart := false }
def SatTruthSaid : Prop := satTruthRow.holds Try.pinned (OpenSpec.ofChange satTruthSpec)

/-- ITS FALSE NEIGHBOUR: 'it returns false'. Refute it at one input. -/
def satTruthWrong : ChangeSpec := { name := "satTruth", fn := fun _ => fun
  | [d] => { results := [.lit (.bool false)], args := [d] }
  | _ => none }
def SatTruthWrongFalsely : Prop := satTruthRow.holds Try.pinned (OpenSpec.ofChange satTruthWrong)

/-- 'tithebarnlaw17.SatMore': WHATEVER THE INPUT: true; the input reads as it did. -/
def satMoreSpec : ChangeSpec := { name := "satMore", fn := fun _ => fun
  | [d1, d2] => { results := [.lit (.bool true)], args := [d1, d2] }
  | _ => none }
def satMoreRow : OpenClaim := { program := "ytjghhdgebmoohaa", sum := "a25da2aab3401b469c718ed2954248de9d2243d91e0d79b1686a65e2805f1469", func := "tithebarn/tithebarnlaw17.SatMore", spec := "satMore", unfollowed := true, recurses := true, apart := false }
def SatMoreSaid : Prop := satMoreRow.holds Try.pinned (OpenSpec.ofChange satMoreSpec)

/-- ITS FALSE NEIGHBOUR: 'it returns false'. Refute it at one input. -/
def satMoreWrong : ChangeSpec := { name := "satMore", fn := fun _ => fun
  | [d1, d2] => { results := [.lit (.bool false)], args := [d1, d2] }
  | _ => none }
def SatMoreWrongFalsely : Prop := satMoreRow.holds Try.pinned (OpenSpec.ofChange satMoreWrong)

/-- 'tithebarnlaw17.SatUnder': WHATEVER THE INPUT: true; the input reads as it did. -/
def satUnderSpec : ChangeSpec := { name := "satUnder", fn := fun _ => fun
  | [d1, d2] => { results := [.lit (.bool true)], args := [d1, d2] }
  | _ => none }
def satUnderRow : OpenClaim := { program := "ytjghhdgebmoohaa", sum := "a25da2aab3401b469c718ed2954248de9d2243d91e0d79b1686a65e2805f1469", func := "tithebarn/tithebarnlaw17.SatUnder", spec := "satUnder", unfollowed := true, recurses := true, apart := false }
def SatUnderSaid : Prop := satUnderRow.holds Try.pinned (OpenSpec.ofChange satUnderSpec)

/-- ITS FALSE NEIGHBOUR: 'it returns false'. Refute it at one input. -/
def satUnderWrong : ChangeSpec := { name := "satUnder", fn := fun _ => fun
  | [d1, d2] => { results := [.lit (.bool false)], args := [d1, d2] }
  | _ => none }
def SatUnderWrongFalsely : Prop := satUnderRow.holds Try.pinned (OpenSpec.ofChange satUnderWrong)

/-- 'tithebarnlaw17.SatKnown': WHATEVER THE INPUT: true; the input reads as it did. -/
def satKnownSpec : ChangeSpec := { name := "satKnown", fn := fun _ => fun
  | [] => { results := [.lit (.bool true)], args := [] }
  | _ => none }
def satKnownRow : OpenClaim := { program := "ytjghhdgebmoohaa", sum := "a25da2aab3401b469c718ed2954248de9d2243d91e0d79b1686a65e2805f1469", func := "tithebarn/tithebarnlaw17.SatKnown", spec := "satKnown", unfollowed := true, recurses := true, apart := false }
def SatKnownSaid : Prop := satKnownRow.holds Try.pinned (OpenSpec.ofChange satKnownSpec)

/-- ITS FALSE NEIGHBOUR: 'it returns false'. Refute it at one input. -/
def satKnownWrong : ChangeSpec := { name := "satKnown", fn := fun _ => fun
  | [] => { results := [.lit (.bool false)], args := [] }
  | _ => none }
def SatKnownWrongFalsely : Prop := satKnownRow.holds Try.pinned (OpenSpec.ofChange satKnownWrong)

/- THE SECOND FORM. 'bulk': how many values and letters a reading holds, each counted each time it is reached (what is shared counts as often as it is met; a slice's spare places count too). A statement '..UptoSaid' is the law's where the arguments, and the package variables that the reading takes, are together of bulk at most 1048576: NARROWER than '..Said'. Prove '..Said' where nothing that the law and all that it calls make is longer than what came in: it says more and counts as full. Else prove '..UptoSaid'. A law counts once. -/
mutual
def uptoBulk {H : Type} : DataW H → Nat
  | .lit (.string bytes) => bytes.length + 1
  | .lit _ => 1
  | .nil => 1
  | .ptr d => uptoBulk d + 1
  | .slice elems spare => uptoBulkAll elems + uptoBulkAll spare + 1
  | .agg parts => uptoBulkAll parts + 1
  | .iface _ d => uptoBulk d + 1
  | .map entries => uptoBulkEntries entries + 1
  | .held _ => 1
def uptoBulkAll {H : Type} : List (DataW H) → Nat
  | [] => 0
  | d :: r => uptoBulk d + uptoBulkAll r
def uptoBulkEntries {H : Type} : List (Lit × DataW H) → Nat
  | [] => 0
  | x :: r => uptoBulkEntry x + uptoBulkEntries r
def uptoBulkEntry {H : Type} : Lit × DataW H → Nat
  | (.string bytes, d) => bytes.length + uptoBulk d + 1
  | (_, d) => uptoBulk d + 1
 end
def uptoSmall : (H : Type) → List (DataW H) → Bool := fun _ ds => decide (uptoBulkAll ds ≤ 1048576)
def OpenSpec.upto (s : _root_.Go.ChangeSpec) : _root_.Go.OpenSpec := { _root_.Go.OpenSpec.ofChange s with cond := some uptoSmall }

/-- 'tithebarnlaw16.CnfCheck', WHERE WHAT IT READS IS OF BULK AT MOST 1048576: true; the input reads as it did. -/
def cnfCheckUptoRow : OpenClaim := { program := "ytjghhdgebmoohaa", sum := "a25da2aab3401b469c718ed2954248de9d2243d91e0d79b1686a65e2805f1469", func := "tithebarn/tithebarnlaw16.CnfCheck", spec := "cnfCheck", unfollowed := true, recurses := true, apart := false, narrowed := true }
def CnfCheckUptoSaid : Prop := cnfCheckUptoRow.holds Try.pinned (OpenSpec.upto cnfCheckSpec)

/-- 'tithebarnlaw16.CnfNorm', WHERE WHAT IT READS IS OF BULK AT MOST 1048576: true; the input reads as it did. -/
def cnfNormUptoRow : OpenClaim := { program := "ytjghhdgebmoohaa", sum := "a25da2aab3401b469c718ed2954248de9d2243d91e0d79b1686a65e2805f1469", func := "tithebarn/tithebarnlaw16.CnfNorm", spec := "cnfNorm", unfollowed := true, recurses := true, apart := false, narrowed := true }
def CnfNormUptoSaid : Prop := cnfNormUptoRow.holds Try.pinned (OpenSpec.upto cnfNormSpec)

/-- 'tithebarnlaw16.CnfHolds', WHERE WHAT IT READS IS OF BULK AT MOST 1048576: true; the input reads as it did. -/
def cnfHoldsUptoRow : OpenClaim := { program := "ytjghhdgebmoohaa", sum := "a25da2aab3401b469c718ed2954248de9d2243d91e0d79b1686a65e2805f1469", func := "tithebarn/tithebarnlaw16.CnfHolds", spec := "cnfHolds", unfollowed := true, recurses := true, apart := false, narrowed := true }
def CnfHoldsUptoSaid : Prop := cnfHoldsUptoRow.holds Try.pinned (OpenSpec.upto cnfHoldsSpec)

/-- 'tithebarnlaw16.CnfUnit', WHERE WHAT IT READS IS OF BULK AT MOST 1048576: true; the input reads as it did. -/
def cnfUnitUptoRow : OpenClaim := { program := "ytjghhdgebmoohaa", sum := "a25da2aab3401b469c718ed2954248de9d2243d91e0d79b1686a65e2805f1469", func := "tithebarn/tithebarnlaw16.CnfUnit", spec := "cnfUnit", unfollowed := true, recurses := true, apart := false, narrowed := true }
def CnfUnitUptoSaid : Prop := cnfUnitUptoRow.holds Try.pinned (OpenSpec.upto cnfUnitSpec)

/-- 'tithebarnlaw16.CnfSound', WHERE WHAT IT READS IS OF BULK AT MOST 1048576: true; the input reads as it did. -/
def cnfSoundUptoRow : OpenClaim := { program := "ytjghhdgebmoohaa", sum := "a25da2aab3401b469c718ed2954248de9d2243d91e0d79b1686a65e2805f1469", func := "tithebarn/tithebarnlaw16.CnfSound", spec := "cnfSound", unfollowed := true, recurses := true, apart := false, narrowed := true }
def CnfSoundUptoSaid : Prop := cnfSoundUptoRow.holds Try.pinned (OpenSpec.upto cnfSoundSpec)

/-- 'tithebarnlaw16.CnfNormal', WHERE WHAT IT READS IS OF BULK AT MOST 1048576: true; the input reads as it did. -/
def cnfNormalUptoRow : OpenClaim := { program := "ytjghhdgebmoohaa", sum := "a25da2aab3401b469c718ed2954248de9d2243d91e0d79b1686a65e2805f1469", func := "tithebarn/tithebarnlaw16.CnfNormal", spec := "cnfNormal", unfollowed := true, recurses := true, apart := false, narrowed := true }
def CnfNormalUptoSaid : Prop := cnfNormalUptoRow.holds Try.pinned (OpenSpec.upto cnfNormalSpec)

/-- 'tithebarnlaw16.CnfKnown', WHERE WHAT IT READS IS OF BULK AT MOST 1048576: true; the input reads as it did. -/
def cnfKnownUptoRow : OpenClaim := { program := "ytjghhdgebmoohaa", sum := "a25da2aab3401b469c718ed2954248de9d2243d91e0d79b1686a65e2805f1469", func := "tithebarn/tithebarnlaw16.CnfKnown", spec := "cnfKnown", unfollowed := true, recurses := true, apart := false, narrowed := true }
def CnfKnownUptoSaid : Prop := cnfKnownUptoRow.holds Try.pinned (OpenSpec.upto cnfKnownSpec)

/-- 'tithebarnlaw17.SatSolve', WHERE WHAT IT READS IS OF BULK AT MOST 1048576: true; the input reads as it did. -/
def satSolveUptoRow : OpenClaim := { program := "ytjghhdgebmoohaa", sum := "a25da2aab3401b469c718ed2954248de9d2243d91e0d79b1686a65e2805f1469", func := "tithebarn/tithebarnlaw17.SatSolve", spec := "satSolve", unfollowed := true, recurses := true, apart := false, narrowed := true }
def SatSolveUptoSaid : Prop := satSolveUptoRow.holds Try.pinned (OpenSpec.upto satSolveSpec)

/-- 'tithebarnlaw17.SatTruth', WHERE WHAT IT READS IS OF BULK AT MOST 1048576: true; the input reads as it did. -/
def satTruthUptoRow : OpenClaim := { program := "ytjghhdgebmoohaa", sum := "a25da2aab3401b469c718ed2954248de9d2243d91e0d79b1686a65e2805f1469", func := "tithebarn/tithebarnlaw17.SatTruth", spec := "satTruth", unfollowed := true, recurses := true, apart := false, narrowed := true }
def SatTruthUptoSaid : Prop := satTruthUptoRow.holds Try.pinned (OpenSpec.upto satTruthSpec)

/-- 'tithebarnlaw17.SatMore', WHERE WHAT IT READS IS OF BULK AT MOST 1048576: true; the input reads as it did. -/
def satMoreUptoRow : OpenClaim := { program := "ytjghhdgebmoohaa", sum := "a25da2aab3401b469c718ed2954248de9d2243d91e0d79b1686a65e2805f1469", func := "tithebarn/tithebarnlaw17.SatMore", spec := "satMore", unfollowed := true, recurses := true, apart := false, narrowed := true }
def SatMoreUptoSaid : Prop := satMoreUptoRow.holds Try.pinned (OpenSpec.upto satMoreSpec)

/-- 'tithebarnlaw17.SatUnder', WHERE WHAT IT READS IS OF BULK AT MOST 1048576: true; the input reads as it did. -/
def satUnderUptoRow : OpenClaim := { program := "ytjghhdgebmoohaa", sum := "a25da2aab3401b469c718ed2954248de9d2243d91e0d79b1686a65e2805f1469", func := "tithebarn/tithebarnlaw17.SatUnder", spec := "satUnder", unfollowed := true, recurses := true, apart := false, narrowed := true }
def SatUnderUptoSaid : Prop := satUnderUptoRow.holds Try.pinned (OpenSpec.upto satUnderSpec)

/-- 'tithebarnlaw17.SatKnown', WHERE WHAT IT READS IS OF BULK AT MOST 1048576: true; the input reads as it did. -/
def satKnownUptoRow : OpenClaim := { program := "ytjghhdgebmoohaa", sum := "a25da2aab3401b469c718ed2954248de9d2243d91e0d79b1686a65e2805f1469", func := "tithebarn/tithebarnlaw17.SatKnown", spec := "satKnown", unfollowed := true, recurses := true, apart := false, narrowed := true }
def SatKnownUptoSaid : Prop := satKnownUptoRow.holds Try.pinned (OpenSpec.upto satKnownSpec)

end Rows
end Go.Proofs.Ytjghhdgebmoohaa
