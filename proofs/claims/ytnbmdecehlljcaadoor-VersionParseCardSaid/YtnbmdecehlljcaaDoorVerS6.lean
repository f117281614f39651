/- Plain law: VersionParse. -/
import Derived.Test.YtnbmdecehlljcaaDoorPVerx5
import Derived.Test.YtnbmdecehlljcaaDoorVerS2
namespace Go.Proofs.YtnbmdecehlljcaaDoor
open Go.RowKit Go.Lib Go.Proofs.YtnbmdecehlljcaaDoorW.PrintWords Go.Proofs.YtnbmdecehlljcaaDoorW.PrintLast Go.Proofs.YtnbmdecehlljcaaDoorW.PrintMore PVer
set_option linter.unusedVariables false
set_option linter.unusedSimpArgs false
theorem pure_VersionParse : ∀ (a0 : ByteArray), a0.size ≤ maxLen → ∃ k, PVer.tithebarnlaw13_VersionParse.f k a0 = some true := by
  intro s _
  refine Ev.rounds (g := fun k => tithebarnlaw13_VersionParse.f k s) ?_
  unfold tithebarnlaw13_VersionParse.f
  by_cases h : (s.size : Int) > 500
  · exact Ev.ite_pos h (Ev.const rfl)
  · refine Ev.ite_neg h (Ev.obind (parse_prog s (by omega)) (Ev.bind (parse_ev s (by omega)) ?_))
    refine Ev.ite_pos rfl (Ev.bind (same_ev _ _ (by have := (nums_len s).1; show (numsOf _).length ≤ _; omega)) ?_)
    refine Ev.ite_pos (by simp) (Ev.ite_pos rfl (Ev.const rfl))
end Go.Proofs.YtnbmdecehlljcaaDoor
