/- Plain laws: RefuteCheck, RefuteTrim. -/
import Derived.Test.YtghecdmcghppnaaDoorRefI
import Derived.Test.YtghecdmcghppnaaDoorPCnfx0
import Derived.Test.YtghecdmcghppnaaDoorPCnfx21
namespace Go.Proofs.YtghecdmcghppnaaDoor
open Go.RowKit Go.Proofs.YtghecdmcghppnaaDoorW.PrintWords Go.Proofs.YtghecdmcghppnaaDoorW.PrintLast Go.Proofs.YtghecdmcghppnaaDoorW.PrintMore PCnf
set_option linter.unusedVariables false
set_option linter.unusedSimpArgs false
theorem sameRows_l0 (a b : List (List Int)) (he : a = b) (hl : a.length ≤ 1000000) (hc : ∀ c ∈ a, c.length ≤ 1000000) : ∀ (d i : Nat), i + d = a.length → Ev (fun k => tithebarnlaw18_same.l0 k a b i) true := by
  subst he
  intro d
  induction d with
  | zero =>
    intro i hi
    refine Ev.step (f := fun _ => some true) (fun k => ?_) (Ev.now _)
    simp only [tithebarnlaw18_same.l0]
    rw [if_neg (by omega)]
  | succ d ih =>
    intro i hi
    have hlt : i < a.length := by omega
    have hs := same_ev (a.getD i []) (a.getD i []) (by have := hc (a.getD i []) (by simp [hlt]); omega)
    rw [decide_eq_true rfl] at hs
    refine Ev.step (fun k => by
      simp only [tithebarnlaw18_same.l0]
      rw [if_pos (by omega), if_pos (by omega), if_pos (by omega), rdL_nat]) (Ev.bind hs (EvR.pos rfl ?_))
    rw [wrap_id (by omega) (by omega), show ((i : Int) + 1) = ((i + 1 : Nat) : Int) by omega]
    exact ih (i + 1) (by omega)
theorem sameRows_ev (a : List (List Int)) (hl : a.length ≤ 1000000) (hc : ∀ c ∈ a, c.length ≤ 1000000) : Ev (fun k => tithebarnlaw18_same.f k a a) true :=
  Ev.congr (fun k => by unfold tithebarnlaw18_same.f; rw [if_pos rfl]; rfl) (sameRows_l0 a a rfl hl hc a.length 0 (by omega))
end Go.Proofs.YtghecdmcghppnaaDoor
