/- Plain law: RangesParse. -/
import Derived.Test.YtnbmdecehlljcaaGreatDoorRnU
import Derived.Test.YtnbmdecehlljcaaGreatDoorPRqx11
namespace Go.Proofs.YtnbmdecehlljcaaGreatDoor
open Go.RowKit Go.Lib Go.Proofs.YtnbmdecehlljcaaGreatDoorW.PrintWords Go.Proofs.YtnbmdecehlljcaaGreatDoorW.PrintLast Go.Proofs.YtnbmdecehlljcaaGreatDoorW.PrintMore PRq
set_option linter.unusedVariables false
set_option linter.unusedSimpArgs false
theorem out_few (s : ByteArray) : (outF (parseR s)).1.length ≤ 16 ∧ ∀ row ∈ (outF (parseR s)).1, row.length ≤ 16 := by
  unfold parseR
  cases mapO partR (splitB 124 s) with
  | none => exact ⟨by simp [outF], by simp [outF]⟩
  | some r =>
    simp only []
    by_cases hc : r.length ≤ 16 ∧ fewR r = true
    · rw [if_pos hc]
      exact ⟨hc.1, fun row hr => of_decide_eq_true (List.all_eq_true.1 hc.2 row hr)⟩
    · rw [if_neg hc]
      exact ⟨by simp [outF], by simp [outF]⟩
theorem true_RangesParse (s : ByteArray) : Ev (fun k => PRq.tithebarnlaw14_RangesParse.f k s) true := by
  by_cases h : (s.size : Int) > 1000
  · refine Ev.congr (f := fun _ => some true) (fun k => ?_) (Ev.now _)
    unfold PRq.tithebarnlaw14_RangesParse.f
    rw [if_pos h]
    rfl
  · obtain ⟨h1, h2⟩ := out_few s
    refine Ev.congr (f := fun k => (tithebarnref14_Parse.f k s).bind fun bt171 => (if (outF (parseR s)).2 = bt171.2 then ((tithebarnkit_SameRange.f k (outF (parseR s)).1 bt171.1).bind fun t175 => (if t175 = true then ((tithebarnlaw14_works.f).bind fun t176 => (some t176)) else (some false))) else (some false))) (fun k => ?_) (Ev.bind (rParse_ev s (by omega)) (Ev.ite_pos rfl (Ev.bind (Same_ev _ (by omega) (fun row hr => by have := h2 row hr; omega)) (Ev.ite_pos rfl (Ev.const rfl)))))
    unfold PRq.tithebarnlaw14_RangesParse.f
    rw [if_neg h, Parse_prog s (by omega), Option.bind_some]
theorem pure_RangesParse : ∀ (a0 : ByteArray), a0.size ≤ maxLen → ∃ k, PRq.tithebarnlaw14_RangesParse.f k a0 = some true := fun a0 _ => Ev.rounds (g := fun k => PRq.tithebarnlaw14_RangesParse.f k a0) (true_RangesParse a0)
end Go.Proofs.YtnbmdecehlljcaaGreatDoor
