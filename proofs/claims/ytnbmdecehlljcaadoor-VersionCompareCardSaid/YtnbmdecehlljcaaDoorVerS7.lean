/- Plain law: VersionCompare. -/
import Derived.Test.YtnbmdecehlljcaaDoorPVerx10
import Derived.Test.YtnbmdecehlljcaaDoorVerS3
namespace Go.Proofs.YtnbmdecehlljcaaDoor
open Go.RowKit Go.Lib Go.Proofs.YtnbmdecehlljcaaDoorW.PrintWords Go.Proofs.YtnbmdecehlljcaaDoorW.PrintLast Go.Proofs.YtnbmdecehlljcaaDoorW.PrintMore PVer
set_option linter.unusedVariables false
set_option linter.unusedSimpArgs false
theorem compare_j0t (a : List Int) (s : ByteArray) (b : List Int) (t x y : ByteArray) : Ev (fun k => tithebarnlaw13_VersionCompare.j0 k x y true a s b t) true := by
  refine Ev.step (f := fun _ => some true) (fun k => ?_) (Ev.now _)
  simp only [tithebarnlaw13_VersionCompare.j0]
  rfl
theorem compare_j0f (a : List Int) (s : ByteArray) (b : List Int) (t x y : ByteArray) (h1 : a.length ≤ 100) (h2 : b.length ≤ 100) (h3 : s.size ≤ 100) (h4 : t.size ≤ 100) (h5 : x.size ≤ 100) (h6 : y.size ≤ 100) : Ev (fun k => tithebarnlaw13_VersionCompare.j0 k x y false a s b t) true := by
  refine Ev.step (f := fun k => (tithebarnref13_Texts.f k x y).bind fun bt165 => ((tithebarnref13_Compare.f k a s b t).bind fun t176 => (if cmpV a s.data.toList b t.data.toList = t176 then (if (textsV x y).1 = bt165.1 then (if ((textsV x y).2 == bt165.2) = true then (some true) else (some false)) else (some false)) else (some false)))) (fun k => ?_) (Ev.bind (texts_ev x y (by omega) (by omega)) (Ev.bind (refcmp_ev a b s t (by omega)) (Ev.const (by rw [if_pos rfl, if_pos rfl, if_pos (by simp)]))))
  simp only [tithebarnlaw13_VersionCompare.j0]
  rw [if_neg (by decide), texts_prog x y (by omega) (by omega), Option.bind_some, compare_f a s b t h1 h2 h3 h4]
  rfl
theorem pure_VersionCompare : ∀ (l0_0 : (List Int)) (a0_1 : ByteArray) (l1_0 : (List Int)) (a1_1 : ByteArray) (a2 : ByteArray) (a3 : ByteArray), (l0_0.length ≤ maxLen ∧ ∀ y0 ∈ l0_0, (Lit.int .i64 y0).wf = true) → a0_1.size ≤ maxLen → (l1_0.length ≤ maxLen ∧ ∀ y0 ∈ l1_0, (Lit.int .i64 y0).wf = true) → a1_1.size ≤ maxLen → a2.size ≤ maxLen → a3.size ≤ maxLen → ∃ k, PVer.tithebarnlaw13_VersionCompare.f k l0_0 a0_1 l1_0 a1_1 a2 a3 = some true := by
  intro a s b t x y _ _ _ _ _ _
  refine Ev.rounds (g := fun k => tithebarnlaw13_VersionCompare.f k a s b t x y) ?_
  have hT := compare_j0t a s b t x y
  unfold tithebarnlaw13_VersionCompare.f
  by_cases h1 : (a.length : Int) > 100
  · exact Ev.ite_pos h1 hT
  · refine Ev.ite_neg h1 ?_
    by_cases h2 : (b.length : Int) > 100
    · exact Ev.ite_pos h2 hT
    · refine Ev.ite_neg h2 ?_
      by_cases h3 : (s.size : Int) > 100
      · exact Ev.ite_pos h3 hT
      · refine Ev.ite_neg h3 ?_
        by_cases h4 : (t.size : Int) > 100
        · exact Ev.ite_pos h4 hT
        · refine Ev.ite_neg h4 ?_
          by_cases h5 : (x.size : Int) > 100
          · exact Ev.ite_pos h5 hT
          · refine Ev.ite_neg h5 ?_
            by_cases h6 : (y.size : Int) > 100
            · rw [decide_eq_true h6]; exact hT
            · rw [decide_eq_false h6]
              exact compare_j0f a s b t x y (by omega) (by omega) (by omega) (by omega) (by omega) (by omega)
end Go.Proofs.YtnbmdecehlljcaaDoor
