/- cnf.size, cnf.Holds: what each answers. -/
import Derived.Test.YtghecdmcghppnaaDoorCnfB
namespace Go.Proofs.YtghecdmcghppnaaDoor
open Go.RowKit Go.Proofs.YtghecdmcghppnaaDoorW.PrintWords Go.Proofs.YtghecdmcghppnaaDoorW.PrintMore
attribute [local go_sem] max2_int min2_int max_two min_two
set_option linter.unusedVariables false
set_option linter.unusedSimpArgs false
theorem cnf_size_any (x : Int) (h1 : -100000 ≤ x) (h2 : x ≤ 100000) (w : World) : Calls Tryd.prog 63 #[.int .i64 x] w fun e w' => e = .returned (.int .i64 (x.natAbs : Int)) ∧ w' = w := by
  by_cases hx : x < -x
  · have e : ((x.natAbs : Nat) : Int) = -x := by omega
    have E := Aside0.mk e
    clear e
    go_enter Tryd.func63, Tryd.ntmps63
    go_wp2
    go_ret
    exact ⟨by rw [E.out]; rfl, rfl⟩
  · have e : ((x.natAbs : Nat) : Int) = x := by omega
    have E := Aside0.mk e
    clear e
    go_enter Tryd.func63, Tryd.ntmps63
    go_wp2
    go_ret
    exact ⟨by rw [E.out]; rfl, rfl⟩
theorem litB_bounds {x n : Int} (h : litB x n = true) (h0 : 0 ≤ n) (h1 : n ≤ 100000) : x ≠ 0 ∧ -100000 ≤ x ∧ x ≤ 100000 ∧ (x.natAbs : Int) ≤ n := by
  unfold litB at h
  have e : wrap64 (-n) = -n := by unfold wrap64; omega
  rw [e] at h
  simp at h
  omega
theorem checkZ_zero {n : Int} {l : List (List Int)} (h : checkZ n l = 0) : 0 ≤ n ∧ n ≤ 100000 ∧ total l ≤ 1000000 ∧ ∀ c ∈ l, allB c n = true := by
  unfold checkZ at h
  by_cases h1 : n > 100000
  · rw [if_pos h1] at h; omega
  · rw [if_neg h1] at h
    by_cases h2 : total l > 1000000
    · rw [if_pos h2] at h; omega
    · rw [if_neg h2] at h
      by_cases h3 : n < 0
      · rw [if_pos h3] at h; omega
      · rw [if_neg h3] at h
        by_cases h4 : (l.all fun c => allB c n) = true
        · exact ⟨by omega, by omega, by omega, fun c hc => List.all_eq_true.1 h4 c hc⟩
        · rw [if_neg h4] at h; omega
end Go.Proofs.YtghecdmcghppnaaDoor
