/- cnf.lit, cnf.all, cnf.Check: what each answers, of whatever input. -/
import Derived.Test.YtghecdmcghppnaaDoorFuncs
import Derived.Deep.Slices
namespace Go.Proofs.YtghecdmcghppnaaDoor
open Go.RowKit Go.Proofs.YtghecdmcghppnaaDoorW.PrintWords
set_option linter.unusedVariables false
set_option linter.unusedSimpArgs false
/-- A literal of a variable from 1 to n. -/
def litB (x n : Int) : Bool := decide (x ≠ 0) && decide (x ≥ wrap64 (-n)) && decide (x ≤ n)
theorem cnf_lit_any (x n : Int) (w : World) : Calls Tryd.prog 61 #[.int .i64 x, .int .i64 n] w fun e w' => e = .returned (.bool (litB x n)) ∧ w' = w := by
  have hr : ∀ b, litB x n = b → ∀ w' : World, w' = w → (Ending.returned (.bool b) = .returned (.bool (litB x n)) ∧ w' = w) := fun b h w' hw => ⟨by rw [h], hw⟩
  by_cases c1 : x = 0
  · have b1 : (x != 0) = false := by simp [c1]
    have e : litB x n = false := by simp [litB, c1]
    rw [e]
    clear hr e c1
    go_enter Tryd.func61, Tryd.ntmps61
    go_wp2
    go_ret
    exact ⟨rfl, rfl⟩
  · have b1 : (x != 0) = true := by simp [c1]
    by_cases c2 : x ≥ wrap64 (-n)
    · have b2 : decide (x ≥ wrap64 (-n)) = true := decide_eq_true c2
      have b2' : decide (wrap64 (-n) ≤ x) = true := decide_eq_true c2
      have e : litB x n = decide (x ≤ n) := by simp [litB, c1, c2]
      rw [e]
      clear hr e c1 c2
      go_enter Tryd.func61, Tryd.ntmps61
      go_wp2
      go_ret
      exact ⟨rfl, rfl⟩
    · have b2 : decide (x ≥ wrap64 (-n)) = false := decide_eq_false c2
      have b2' : decide (wrap64 (-n) ≤ x) = false := decide_eq_false c2
      have e : litB x n = false := by simp [litB, c1, c2]
      rw [e]
      clear hr e c1 c2
      go_enter Tryd.func61, Tryd.ntmps61
      go_wp2
      go_ret
      exact ⟨rfl, rfl⟩
theorem all1_any (x n : Int) (p : Addr) (w : World) (hc : w.cell? p = some (.int .i64 n)) : Calls Tryd.prog 60 #[.int .i64 x, .pointer (some p)] w fun e w' => e = .returned (.bool (!litB x n)) ∧ w' = w := by
  go_enter Tryd.func60, Tryd.ntmps60
  go_wp2_with (go_at_call 61; refine (cnf_lit_any _ _ _).mono ?_; rintro e w' ⟨rfl, rfl⟩)
  go_ret
  exact ⟨rfl, rfl⟩
/-- Are all of a row literals? -/
def allB (l : List Int) (n : Int) : Bool := l.all fun x => litB x n
theorem anyP_all (l : List Int) (n : Int) : (!anyP (fun j => !litB (l.getD j 0) n) l.length) = allB l n := by
  unfold anyP allB
  rw [Bool.eq_iff_iff]
  simp only [Bool.not_eq_true', List.any_eq_false, List.mem_range, Bool.not_eq_true', Bool.not_eq_false', List.all_eq_true]
  constructor
  · intro h x hx
    obtain ⟨j, hj, rfl⟩ := List.getElem_of_mem hx
    have := h j hj
    simpa [hj] using this
  · intro h j hj
    have := h l[j] (List.getElem_mem hj)
    simpa [hj] using this
theorem rowPlaces_ints {w : World} {A : Option Addr} {l : List Int} (h : Kd.C (Kd.int .i64) w A l.length l) : RowPlaces w A l.length (fun j => .int .i64 (l.getD j 0)) := by
  intro h0
  obtain ⟨ad, e, _⟩ := Kd.at_int h 0 (by omega) (by omega)
  refine ⟨ad, e, fun j hj => ?_⟩
  obtain ⟨ad', e', hc⟩ := Kd.at_int h (j : Int) (by omega) (by omega)
  rw [e] at e'
  obtain rfl := Option.some.inj e'
  simpa [rd] using hc
theorem rowPlaces_intss {w : World} {A : Option Addr} {e : Nat} {l : List (List Int)} (h : Kd.C (Kd.slice e (Kd.int .i64)) w A l.length l) :
    ∃ V : Nat → Value, RowPlaces w A l.length V ∧ ∀ j, j < l.length → ∃ A' c', V j = .slice A' (l.getD j []).length c' ∧ (l.getD j []).length ≤ c' ∧ Kd.C (Kd.int .i64) w A' (l.getD j []).length (l.getD j []) := by
  by_cases h0 : 0 < l.length
  · obtain ⟨ad, c, ea, _⟩ := Kd.C_get h ([] : List Int) 0 (by omega) (by omega)
    have key : ∀ j, j < l.length → ∃ v : Value, w.cell? (ad.add j) = some v ∧ ∃ A' c', v = .slice A' (l.getD j []).length c' ∧ (l.getD j []).length ≤ c' ∧ Kd.C (Kd.int .i64) w A' (l.getD j []).length (l.getD j []) := by
      intro j hj
      obtain ⟨ad', c, e', _, hK, hc0⟩ := Kd.C_get h ([] : List Int) (j : Int) (by omega) (by omega)
      rw [ea] at e'
      obtain rfl := Option.some.inj e'
      obtain ⟨A0, c0, rfl, l0, g0⟩ := hK
      have hq := hc0 0 _ rfl
      exact ⟨_, by simpa [Kd.slice] using hq, A0, c0, rfl, by simpa using l0, by simpa using g0⟩
    haveI : Inhabited Value := ⟨.nilIface⟩
    obtain ⟨V, hV⟩ := Go.Deep.choose_lt key
    exact ⟨V, fun _ => ⟨ad, ea, fun j hj => (hV j hj).1⟩, fun j hj => (hV j hj).2⟩
  · exact ⟨fun _ => .nilIface, fun h => absurd h h0, fun j hj => absurd hj (by omega)⟩
set_option maxHeartbeats 1000000 in
theorem cnf_all_any (A : Option Addr) (c : Nat) (l : List Int) (n : Int) (w : World) (hr : Kd.C (Kd.int .i64) w A l.length l) :
    Calls Tryd.prog 41 #[.slice A l.length c, .int .i64 n] w fun e w' => e = .returned (.bool (allB l n)) ∧ Below w.heap.size w w' := by
  have eg : ∀ args w, (callFunc 60 args).run Tryd.prog w = .ok (.enter 60 args) w := enters_of Tryd.func60 (by kernel_rfl) rfl
  have hl : l.length ≤ 9223372036854775807 := hr.2.1
  have H : ∀ W : World, Below w.heap.size w W → W.cell? ⟨w.heap.size, 0, none⟩ = some (.int .i64 n) → w.heap.size < W.heap.size → Calls Tryd.prog 59 #[.slice A l.length c, .func (.func 60) #[] #[.pointer (some ⟨w.heap.size, 0, none⟩)]] W fun e w' => e = .returned (.bool (anyP (fun j => !litB (l.getD j 0) n) l.length)) ∧ Below W.heap.size W w' := by
    intro W hb hc hs
    refine ContainsFunc_ints _ _ eg A l.length c (fun j => .int .i64 (l.getD j 0)) _ W hl (rowPlaces_ints (Kd.C_below hr hb)) ?_
    intro j hj W' hb'
    refine (all1_any _ n ⟨w.heap.size, 0, none⟩ W' ((hb'.cell (p := ⟨w.heap.size, 0, none⟩) hs).trans hc)).mono ?_
    rintro e w' ⟨rfl, rfl⟩
    exact ⟨rfl, Below.refl _ _⟩
  have H' := Aside0.mk H
  clear H hr eg
  have E := Aside0.mk (anyP_all l n)
  go_enter Tryd.func41, Tryd.ntmps41
  go_wp2_with (go_at_call 59; refine ((H'.out) _ ((Below.refl _ w).alloc (Nat.le_refl _) _) (by simp) (by simp)).mono ?_; rintro e w' ⟨rfl, hb⟩; have HB := Aside0.mk hb; clear hb)
  go_ret
  exact ⟨by rw [← E.out]; rfl, ((Below.refl _ w).alloc (Nat.le_refl _) _).trans (HB.out.mono (by simp))⟩
end Go.Proofs.YtghecdmcghppnaaDoor
