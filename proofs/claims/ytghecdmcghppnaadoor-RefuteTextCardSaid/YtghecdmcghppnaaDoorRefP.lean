/- Plain: rows of literals as texts, there and back. No program. -/
import Derived.Lib.ItoaLen
import Derived.Lib.AtoiAll
import Derived.Lib.Strings
namespace Go.Proofs.YtghecdmcghppnaaDoor
set_option linter.unusedVariables false
/-- May a literal be written? -/
def litR (x : Int) : Bool := decide (x ≠ 0) && decide (-100000 ≤ x) && decide (x ≤ 100000)
def litT (x : Int) : List UInt8 := Lib.itoa x ++ [32]
def rowT (c : List Int) : List UInt8 := c.flatMap litT ++ [48, 10]
def rowsT (l : List (List Int)) : List UInt8 := l.flatMap rowT
def allR (l : List (List Int)) : Bool := l.all fun c => c.all litR
theorem litR_iff {x : Int} : litR x = true ↔ x ≠ 0 ∧ -100000 ≤ x ∧ x ≤ 100000 := by simp [litR, and_assoc]
theorem litT_len {x : Int} (h : litR x = true) : (litT x).length ≤ 22 := by
  have := litR_iff.1 h
  have := Lib.itoa_length_le x (by omega) (by omega)
  simp [litT]
  omega
theorem litsT_len : ∀ (c : List Int), c.all litR = true → (c.flatMap litT).length ≤ 22 * c.length
  | [], _ => by simp
  | x :: c, h => by
    simp only [List.all_cons, Bool.and_eq_true] at h
    have h1 := litT_len h.1
    have h2 := litsT_len c h.2
    simp only [List.flatMap_cons, List.length_append, List.length_cons]
    omega
theorem rowsT_len : ∀ (l : List (List Int)), allR l = true → (rowsT l).length ≤ 22 * (l.map List.length).sum + 2 * l.length
  | [], _ => by simp [rowsT]
  | c :: l, h => by
    have h' : c.all litR = true ∧ allR l = true := by simpa [allR] using h
    have h1 := litsT_len c h'.1
    have h2 := rowsT_len l h'.2
    have e : (rowsT (c :: l)).length = (c.flatMap litT).length + 2 + (rowsT l).length := by
      show (rowT c ++ rowsT l).length = _
      unfold rowT
      rw [List.length_append, List.length_append]
      rfl
    rw [e]
    simp only [List.map_cons, List.sum_cons, List.length_cons]
    omega
theorem rowsT_snoc (l : List (List Int)) (k : Nat) (h : k < l.length) : rowsT (l.take (k + 1)) = rowsT (l.take k) ++ rowT (l.getD k []) := by
  unfold rowsT
  rw [List.take_succ_eq_append_getElem h, List.flatMap_append]
  simp [h]
theorem litsT_snoc (c : List Int) (k : Nat) (h : k < c.length) : (c.take (k + 1)).flatMap litT = (c.take k).flatMap litT ++ (Lib.itoa (c.getD k 0) ++ [32]) := by
  rw [List.take_succ_eq_append_getElem h, List.flatMap_append]
  simp [h, litT]
theorem allR_snoc (l : List (List Int)) (k : Nat) (h : k < l.length) : allR (l.take (k + 1)) = (allR (l.take k) && (l.getD k []).all litR) := by
  unfold allR
  rw [List.take_succ_eq_append_getElem h, List.all_append]
  simp [h]
theorem all_snoc (c : List Int) (k : Nat) (h : k < c.length) : (c.take (k + 1)).all litR = ((c.take k).all litR && litR (c.getD k 0)) := by
  rw [List.take_succ_eq_append_getElem h, List.all_append]
  simp [h]
theorem allR_no {l : List (List Int)} {k : Nat} (h : k < l.length) {j : Nat} (hj : j < (l.getD k []).length) (hx : litR ((l.getD k []).getD j 0) = false) : allR l = false := by
  rw [Bool.eq_false_iff]
  intro ha
  have h1 := List.all_eq_true.1 ha (l.getD k []) (by simp [h])
  generalize l.getD k [] = c at *
  have h2 := List.all_eq_true.1 h1 (c.getD j 0) (by simp [hj])
  rw [h2] at hx
  cases hx
/-- A word of a row: its literal; none: it is wrong. -/
def litW (l : List UInt8) : Option Int :=
  if Lib.hasSuffix l [32] = true then (match Lib.atoiAll (Lib.trimSuffix l [32]) with
    | .ok x => if litR x = true ∧ Lib.itoa x = Lib.trimSuffix l [32] then some x else none
    | _ => none) else none
def rowF : List ByteArray → List Int → Option (List Int)
  | [], acc => some acc
  | y :: ys, acc => if y.data.toList = [] then rowF ys acc else match litW y.data.toList with
    | none => none
    | some x => rowF ys (acc ++ [x])
end Go.Proofs.YtghecdmcghppnaaDoor
