/- What is read as data at a type of floats, or of a slice of floats. -/
import Derived.Test.YtghnlhadohnenaaDoorOpen
import Derived.Test.YtghnlhadohnenaaDoorNumAE
import Derived.Laws.Cover2
namespace Go.Proofs.YtghnlhadohnenaaDoor
set_option exponentiation.threshold 3000
open Go.RowKit Go.Deep Go.ChangeShapes Go.WideShapes Go.ChangeAt Go.Joins
set_option linter.unusedVariables false
theorem wf_float {b : Nat} (h : (Lit.float .f64 b).wf = true) : b < 18446744073709551616 := by simpa [Lit.wf] using h
theorem trod_float {H : Type} {enc : TypeId × Value → H} {P : Program} {W : World} {base : Nat} {spare : Nat → Bool} {held : Bool} {fuel : Nat} {t : TypeId} {k : FloatKind} {cs : List Value} {x : DataW H × List MemPlace} (ht : P.underlying t = some (.float k)) (h : DataW.trod enc P W base spare held fuel t cs = some x) : ∃ n, cs = [.float k n] ∧ (Lit.float k n).wf = true := by
  cases fuel with
  | zero => simp [DataW.trod] at h
  | succ n =>
    unfold DataW.trod at h
    rw [ht] at h
    split at h <;> simp_all
theorem open_floats {H : Type} {enc : TypeId × Value → H} {P : Program} {W : World} {base : Nat} {spare : Nat → Bool} {held : Bool} {fuel : Nat} {T e : TypeId} {cs : List Value} {x : DataW H × List MemPlace} (ht : P.underlying T = some (.slice e)) (he : P.underlying e = some (.float .f64)) (hs : P.cellsOf e = 1) (h : DataW.trod enc P W base spare held fuel T cs = some x) :
    ∃ (l : List Nat) (A : Option Addr) (c : Nat), cs = [.slice A l.length c] ∧ allW l ∧ l.length ≤ maxLen ∧ l.length ≤ c ∧ RowF W A l := by
  rcases open_slice ht h with ⟨rfl, _⟩ | ⟨a, len, cap, m, n, D, Pl, rfl, _, hl, hm, hmm, _, hel⟩
  · exact ⟨[], none, 0, rfl, by simp [allW], by simp, Nat.le_refl _, fun h => absurd h (by simp)⟩
  · have hlm : len ≤ m := by rw [hmm]; split <;> omega
    have key : ∀ i, i < len → ∃ b : Nat, b < 18446744073709551616 ∧ W.cell? (a.add i) = some (.float .f64 b) := by
      intro i hi
      obtain ⟨cs', hc, htr⟩ := hel i (by omega)
      obtain ⟨b, rfl, hw⟩ := trod_float he htr
      rw [hs] at hc
      obtain ⟨_, hc2⟩ := cells_at hc
      have := hc2 0 _ rfl
      rw [Go.Deep.add_add, Nat.mul_one, Nat.add_zero] at this
      exact ⟨b, wf_float hw, this⟩
    obtain ⟨f, hf⟩ := choose_lt key
    have e1 : ((List.range len).map f).length = len := by simp
    refine ⟨(List.range len).map f, some a, cap, by rw [e1], ?_, by rw [e1]; unfold maxLen at *; omega, by rw [e1]; exact hl, fun _ => ⟨a, rfl, fun j hj => ?_⟩⟩
    · intro y hy
      obtain ⟨j, hj, rfl⟩ := List.mem_map.1 hy
      exact (hf j (List.mem_range.1 hj)).1
    · rw [e1] at hj
      rw [(hf j hj).2]
      simp [List.getElem?_range hj]
end Go.Proofs.YtghnlhadohnenaaDoor
