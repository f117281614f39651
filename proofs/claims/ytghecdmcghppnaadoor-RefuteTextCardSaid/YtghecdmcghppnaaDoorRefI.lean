/- Plain: the reference's formulas: Few, Check, Unit. -/
import Derived.Test.YtghecdmcghppnaaDoorRefH
import Derived.Test.YtghecdmcghppnaaDoorPCnfx21
import Derived.Test.YtghecdmcghppnaaDoorPCnfx0
namespace Go.Proofs.YtghecdmcghppnaaDoor
open Go.RowKit Go.Proofs.YtghecdmcghppnaaDoorW.PrintWords Go.Proofs.YtghecdmcghppnaaDoorW.PrintLast Go.Proofs.YtghecdmcghppnaaDoorW.PrintMore PCnf
set_option linter.unusedVariables false
set_option linter.unusedSimpArgs false
theorem wrap_id {x : Int} (h1 : -9223372036854775808 ≤ x) (h2 : x ≤ 9223372036854775807) : wrap64 x = x := by unfold wrap64; omega
theorem Ev.some_bind {α β : Type} {a : α} {f : Nat → α → Option β} {r : β} (k : Ev (fun n => f n a) r) : Ev (fun n => (some a).bind (f n)) r := Ev.congr (fun n => rfl) k
theorem Ev.obind {α β : Type} {o : Option α} {a : α} {f : Nat → α → Option β} {r : β} (h : o = some a) (k : Ev (fun n => f n a) r) : Ev (fun n => o.bind (f n)) r := by
  subst h; exact Ev.some_bind k
theorem rd_nat (xs : List Int) (i : Nat) : rd xs (i : Int) = xs.getD i 0 := rfl
theorem rdL_nat (xs : List (List Int)) (i : Nat) : rd_L1 xs (i : Int) = xs.getD i [] := rfl
/-- Few: where it says yes, the bounds hold. -/
theorem few_l0 (l : List (List Int)) (top : Int) (h0 : 0 ≤ top) (ht : top ≤ 100000) (hl : l.length ≤ 100000) : ∀ (d i : Nat), i + d = l.length → (total (l.take i) : Int) ≤ top →
    ∃ b, Ev (fun k => tithebarnkit_Few.l0 k l top (total (l.take i)) i) b ∧ (b = true → (total l : Int) ≤ top) := by
  intro d
  induction d with
  | zero =>
    intro i hi hb
    refine ⟨true, Ev.step (f := fun _ => some true) (fun k => ?_) (Ev.now _), fun _ => ?_⟩
    · simp only [tithebarnkit_Few.l0]
      rw [if_neg (by omega)]
    · have : l.take i = l := List.take_of_length_le (by omega)
      rwa [this] at hb
  | succ d ih =>
    intro i hi hb
    have hs := total_snoc l i (by omega)
    have hw : wrap64 (top - (total (l.take i) : Int)) = top - total (l.take i) := wrap_id (by omega) (by omega)
    by_cases hc : ((l.getD i []).length : Int) > top - total (l.take i)
    · refine ⟨false, Ev.step (f := fun _ => some false) (fun k => ?_) (Ev.now _), fun h => by cases h⟩
      simp only [tithebarnkit_Few.l0]
      rw [if_pos (by omega), if_pos (by omega), rdL_nat, hw, if_pos hc]
    · obtain ⟨b, h1, h2⟩ := ih (i + 1) (by omega) (by omega)
      refine ⟨b, Ev.step (fun k => ?_) h1, h2⟩
      simp only [tithebarnkit_Few.l0]
      rw [if_pos (by omega), if_pos (by omega), rdL_nat, hw, if_neg hc, wrap_id (by omega) (by omega), wrap_id (by omega) (by omega)]
      rw [show ((total (l.take i) : Int) + ((l.getD i []).length : Int)) = ((total (l.take (i + 1)) : Nat) : Int) by omega, show ((i : Int) + 1) = ((i + 1 : Nat) : Int) by omega]
theorem few_ev (v : Int) (l : List (List Int)) (top : Int) (h0 : 0 ≤ top) (ht : top ≤ 100000) :
    ∃ b, Ev (fun k => tithebarnkit_Few.f k v l top) b ∧ (b = true → v ≤ top ∧ (l.length : Int) ≤ top ∧ (total l : Int) ≤ top) := by
  by_cases h1 : v > top
  · refine ⟨false, Ev.congr (f := fun k => tithebarnkit_Few.j0 k l top true) (fun k => by unfold tithebarnkit_Few.f; rw [if_pos h1]) (Ev.step (f := fun _ => some false) (fun k => by simp only [tithebarnkit_Few.j0]; simp) (Ev.now _)), fun h => by cases h⟩
  · by_cases h2 : (l.length : Int) > top
    · refine ⟨false, Ev.congr (f := fun k => tithebarnkit_Few.j0 k l top true) (fun k => by unfold tithebarnkit_Few.f; rw [if_neg h1, decide_eq_true h2]) (Ev.step (f := fun _ => some false) (fun k => by simp only [tithebarnkit_Few.j0]; simp) (Ev.now _)), fun h => by cases h⟩
    · obtain ⟨b, e1, e2⟩ := few_l0 l top h0 ht (by omega) l.length 0 (by omega) (by simpa [total] using h0)
      refine ⟨b, Ev.congr (f := fun k => tithebarnkit_Few.j0 k l top false) (fun k => by unfold tithebarnkit_Few.f; rw [if_neg h1, decide_eq_false h2]) (Ev.step (f := fun k => tithebarnkit_Few.l0 k l top 0 0) (fun k => by simp only [tithebarnkit_Few.j0]; rw [if_neg (by simp)]) (by simpa [total] using e1)), fun h => ⟨by omega, by omega, e2 h⟩⟩
theorem total_get (l : List (List Int)) (q : Nat) (h : q < l.length) : (l.getD q []).length ≤ total l := by
  have := total_snoc l q h
  have := total_take_le l (q + 1)
  omega
theorem same_l0 (a b : List Int) (he : a.length = b.length) (hl : a.length ≤ 1000000000) : ∀ (d i : Nat), i + d = a.length → (∀ q, q < i → a.getD q 0 = b.getD q 0) → Ev (fun k => tithebarnkit_SameInts.l0 k a b i) (decide (a = b)) := by
  intro d
  induction d with
  | zero =>
    intro i hi hq
    have : a = b := List.ext_getElem he (fun q q1 q2 => by have := hq q (by omega); simpa [q1, q2] using this)
    rw [decide_eq_true this]
    refine Ev.step (f := fun _ => some true) (fun k => ?_) (Ev.now _)
    simp only [tithebarnkit_SameInts.l0]
    rw [if_neg (by omega)]
  | succ d ih =>
    intro i hi hq
    by_cases e : a.getD i 0 = b.getD i 0
    · refine Ev.step (fun k => ?_) (ih (i + 1) (by omega) (fun q hq' => by
        by_cases e' : q = i
        · rw [e']; exact e
        · exact hq q (by omega)))
      simp only [tithebarnkit_SameInts.l0]
      rw [if_pos (by omega), if_pos (by omega), if_pos (by omega), rd_nat, rd_nat, if_pos e, wrap_id (by omega) (by omega)]
      rfl
    · rw [decide_eq_false (fun h => e (by rw [h]))]
      refine Ev.step (f := fun _ => some false) (fun k => ?_) (Ev.now _)
      simp only [tithebarnkit_SameInts.l0]
      rw [if_pos (by omega), if_pos (by omega), if_pos (by omega), rd_nat, rd_nat, if_neg e]
theorem same_ev (a b : List Int) (hl : a.length ≤ 1000000000) : Ev (fun k => tithebarnkit_SameInts.f k a b) (decide (a = b)) := by
  by_cases h : a.length = b.length
  · refine Ev.congr (f := fun k => tithebarnkit_SameInts.l0 k a b ((0 : Nat) : Int)) (fun k => by unfold tithebarnkit_SameInts.f; rw [if_pos (by omega)]; rfl) (same_l0 a b h hl a.length 0 (by omega) (fun q hq => absurd hq (Nat.not_lt_zero _)))
  · rw [decide_eq_false (fun e => h (by rw [e]))]
    exact Ev.congr (f := fun _ => some false) (fun k => by unfold tithebarnkit_SameInts.f; rw [if_neg (by omega)]) (Ev.now _)
theorem getD_set_ne {s : List Int} {i j : Nat} {x : Int} (h : i ≠ j) : (s.set i x).getD j 0 = s.getD j 0 := by
  simp [List.getD, List.getElem?_set, h]
/-! What the clauses are. -/
/-! The reference's loops. -/
end Go.Proofs.YtghecdmcghppnaaDoor
