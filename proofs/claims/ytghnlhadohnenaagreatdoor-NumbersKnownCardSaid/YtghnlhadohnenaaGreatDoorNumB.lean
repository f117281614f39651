/- Plain: words of doubles by sign and rung; their order. No program. -/
import Derived.Test.YtghnlhadohnenaaGreatDoorNumA
namespace Go.Proofs.YtghnlhadohnenaaGreatDoor
set_option exponentiation.threshold 3000
open Ieee Go
set_option linter.unusedVariables false
set_option linter.unusedSimpArgs false
def W64 : Nat := 18446744073709551616
def B63 : Nat := 9223372036854775808
/-- A word's rung, sign, and whether it is no number. -/
def rk (x : Nat) : Nat := x % 9223372036854775808
def sb (x : Nat) : Bool := decide (9223372036854775808 ≤ x)
def nanB (x : Nat) : Bool := decide (topR < rk x)
def sv (x : Nat) : Int := sg (sb x) (rk x)
theorem wd_rk {s : Bool} {r : Nat} (h : r < 9223372036854775808) : rk (wd s r) = r := by unfold rk wd; cases s <;> simp <;> omega
theorem wd_sb {s : Bool} {r : Nat} (h : r < 9223372036854775808) : sb (wd s r) = s := by unfold sb wd; cases s <;> simp <;> omega
theorem wd_lt {s : Bool} {r : Nat} (h : r < 9223372036854775808) : wd s r < 18446744073709551616 := by unfold wd; cases s <;> simp <;> omega
theorem wd_eq {x : Nat} (h : x < 18446744073709551616) : x = wd (sb x) (rk x) := by
  unfold wd sb rk
  by_cases c : 9223372036854775808 ≤ x
  · rw [decide_eq_true c]; simp; omega
  · rw [decide_eq_false c]; simp; omega
theorem rk_lt (x : Nat) : rk x < 9223372036854775808 := Nat.mod_lt _ (by omega)
theorem sv_wd {s : Bool} {r : Nat} (h : r < 9223372036854775808) : sv (wd s r) = sg s r := by unfold sv; rw [wd_rk h, wd_sb h]
theorem nan_wd {s : Bool} {r : Nat} (h : r ≤ topR) : nanB (wd s r) = false := by
  unfold nanB
  rw [wd_rk (by unfold topR at h; omega)]
  exact decide_eq_false (by omega)
/-- A word is a number or an infinity at its rung, or none. -/
theorem word_cases {x : Nat} (h : x < 18446744073709551616) : nanB x = true ∨ ∃ s r, x = wd s r ∧ r ≤ topR ∧ nanB x = false := by
  cases hn : nanB x with
  | true => exact .inl rfl
  | false =>
    refine .inr ⟨sb x, rk x, wd_eq h, ?_, rfl⟩
    unfold nanB at hn
    have := of_decide_eq_false hn
    omega
theorem mg_top : mg topR = 2 ^ 2098 := by
  have h1 : dm topR = 2 ^ 52 := by decide
  have h2 : dp topR = 2046 := by decide
  unfold mg
  rw [h1, h2, ← Nat.pow_add]
theorem cmp_mono (s t : Bool) (a b : Nat) : compare (sg s (mg a)) (sg t (mg b)) = compare (sg s a) (sg t b) := by
  have hlt : ∀ a b : Nat, mg a < mg b ↔ a < b := fun a b => mg_lt_iff
  have h0 : mg 0 = 0 := mg_zero
  have hp : ∀ a : Nat, 0 < mg a ↔ 0 < a := fun a => by have := hlt 0 a; rwa [h0] at this
  have ha := hp a
  have hb := hp b
  have hab := hlt a b
  have hba := hlt b a
  have key : ∀ x y u v : Int, (x < y ↔ u < v) → (y < x ↔ v < u) → compare x y = compare u v := fun x y u v h1 h2 => by
    rcases Int.lt_trichotomy u v with c | c | c
    · rw [Int.compare_eq_lt.2 c, Int.compare_eq_lt.2 (h1.2 c)]
    · have : x = y := by omega
      rw [c, this]
      simp
    · rw [Int.compare_eq_gt.2 c, Int.compare_eq_gt.2 (h2.2 c)]
  refine key _ _ _ _ ?_ ?_ <;> unfold sg <;> cases s <;> cases t <;> simp <;> omega
theorem read_of (s : Bool) {r : Nat} (h : r ≤ topR) : (r < topR ∧ double.read (wd s r) = .number s (dm r) (-1074 + dp r)) ∨ (r = topR ∧ double.read (wd s r) = .infinity s) := by
  by_cases c : r < topR
  · exact .inl ⟨c, read_num s r c⟩
  · have e : r = topR := by omega
    subst e
    exact .inr ⟨rfl, read_inf s⟩
theorem order_any (s t : Bool) (a b : Nat) (ha : a ≤ topR) (hb : b ≤ topR) : double.order (wd s a) (wd t b) = some (compare (sg s a) (sg t b)) := by
  rcases read_of s ha with ⟨h1, e1⟩ | ⟨h1, e1⟩ <;> rcases read_of t hb with ⟨h2, e2⟩ | ⟨h2, e2⟩
  · rw [order_num s t a b h1 h2, cmp_mono]
  · unfold Format.order
    rw [e1, e2, h2]
    simp only [Datum.order]
    congr 1
    unfold sg
    cases t
    · simp only [Bool.false_eq_true, if_false]
      exact (Int.compare_eq_lt.2 (by cases s <;> simp <;> omega)).symm
    · simp only [if_true]
      exact (Int.compare_eq_gt.2 (by cases s <;> simp <;> omega)).symm
  · unfold Format.order
    rw [e1, e2, h1]
    simp only [Datum.order]
    congr 1
    unfold sg
    cases s
    · simp only [Bool.false_eq_true, if_false]
      exact (Int.compare_eq_gt.2 (by cases t <;> simp <;> omega)).symm
    · simp only [if_true]
      exact (Int.compare_eq_lt.2 (by cases t <;> simp <;> omega)).symm
  · unfold Format.order
    rw [e1, e2, h1, h2]
    simp only [Datum.order]
    cases s <;> cases t <;> decide
theorem read_nanB {x : Nat} (h : x < 18446744073709551616) (hn : nanB x = true) : ∃ s p, double.read x = .nan s p := by
  have := wd_eq h
  rw [this]
  unfold nanB at hn
  exact ⟨_, _, read_nan (sb x) (rk x) (of_decide_eq_true hn) (rk_lt x)⟩
theorem order_nan {x y : Nat} (hx : x < 18446744073709551616) (hy : y < 18446744073709551616) (h : nanB x = true ∨ nanB y = true) : double.order x y = none := by
  unfold Format.order
  rcases h with h | h
  · obtain ⟨s, p, e⟩ := read_nanB hx h
    rw [e]
    rfl
  · obtain ⟨s, p, e⟩ := read_nanB hy h
    rw [e]
    cases double.read x <;> rfl
/-- Two words' order. -/
theorem order_words {x y : Nat} (hx : x < 18446744073709551616) (hy : y < 18446744073709551616) (h1 : nanB x = false) (h2 : nanB y = false) : double.order x y = some (compare (sv x) (sv y)) := by
  rcases word_cases hx with c | ⟨s, a, e, ha, _⟩
  · rw [c] at h1; cases h1
  · rcases word_cases hy with c | ⟨t, b, e2, hb, _⟩
    · rw [c] at h2; cases h2
    · subst e e2
      rw [order_any s t a b ha hb, sv_wd (by unfold topR at ha; omega), sv_wd (by unfold topR at hb; omega)]
abbrev ltF (x y : Nat) : Bool := FloatKind.f64.format.order x y == some .lt
abbrev gtF (x y : Nat) : Bool := FloatKind.f64.format.order x y == some .gt
abbrev eqF (x y : Nat) : Bool := FloatKind.f64.format.order x y == some .eq
theorem fmt64 : FloatKind.f64.format = double := rfl
theorem ltF_iff {x y : Nat} (hx : x < 18446744073709551616) (hy : y < 18446744073709551616) (h1 : nanB x = false) (h2 : nanB y = false) : ltF x y = decide (sv x < sv y) := by
  unfold ltF
  rw [fmt64, order_words hx hy h1 h2]
  rcases Int.lt_trichotomy (sv x) (sv y) with c | c | c
  · rw [Int.compare_eq_lt.2 c, decide_eq_true c]; rfl
  · rw [Int.compare_eq_eq.2 c, decide_eq_false (by omega)]; rfl
  · rw [Int.compare_eq_gt.2 c, decide_eq_false (by omega)]; rfl
theorem gtF_iff {x y : Nat} (hx : x < 18446744073709551616) (hy : y < 18446744073709551616) (h1 : nanB x = false) (h2 : nanB y = false) : gtF x y = decide (sv y < sv x) := by
  unfold gtF
  rw [fmt64, order_words hx hy h1 h2]
  rcases Int.lt_trichotomy (sv x) (sv y) with c | c | c
  · rw [Int.compare_eq_lt.2 c, decide_eq_false (by omega)]; rfl
  · rw [Int.compare_eq_eq.2 c, decide_eq_false (by omega)]; rfl
  · rw [Int.compare_eq_gt.2 c, decide_eq_true (by omega)]; rfl
theorem eqF_iff {x y : Nat} (hx : x < 18446744073709551616) (hy : y < 18446744073709551616) (h1 : nanB x = false) (h2 : nanB y = false) : eqF x y = decide (sv x = sv y) := by
  unfold eqF
  rw [fmt64, order_words hx hy h1 h2]
  rcases Int.lt_trichotomy (sv x) (sv y) with c | c | c
  · rw [Int.compare_eq_lt.2 c, decide_eq_false (by omega)]; rfl
  · rw [Int.compare_eq_eq.2 c, decide_eq_true c]; rfl
  · rw [Int.compare_eq_gt.2 c, decide_eq_false (by omega)]; rfl
theorem order_nanF {x y : Nat} (hx : x < 18446744073709551616) (hy : y < 18446744073709551616) (h : nanB x = true ∨ nanB y = true) : FloatKind.f64.format.order x y = none := order_nan hx hy h
theorem ltF_nan {x y : Nat} (hx : x < 18446744073709551616) (hy : y < 18446744073709551616) (h : nanB x = true ∨ nanB y = true) : ltF x y = false := by unfold ltF; rw [order_nanF hx hy h]; rfl
theorem gtF_nan {x y : Nat} (hx : x < 18446744073709551616) (hy : y < 18446744073709551616) (h : nanB x = true ∨ nanB y = true) : gtF x y = false := by unfold gtF; rw [order_nanF hx hy h]; rfl
theorem eqF_nan {x y : Nat} (hx : x < 18446744073709551616) (hy : y < 18446744073709551616) (h : nanB x = true ∨ nanB y = true) : eqF x y = false := by unfold eqF; rw [order_nanF hx hy h]; rfl
/-- A word equals itself just if it is a number. -/
theorem eqF_self {x : Nat} (hx : x < 18446744073709551616) : eqF x x = !nanB x := by
  cases h : nanB x with
  | true => exact eqF_nan hx hx (.inl h)
  | false => rw [eqF_iff hx hx h h]; simp
/-- Where a word stands in the order: nan last; of two noughts that below first. -/
def key (x : Nat) : Int := if nanB x then 9223372036854775808 else if sb x then -(rk x : Int) - 1 else rk x
theorem key_inj {x y : Nat} (hx : x < 18446744073709551616) (hy : y < 18446744073709551616) (h : key x = key y) : x = y ∨ (nanB x = true ∧ nanB y = true) := by
  unfold key at h
  have h1 := rk_lt x
  have h2 := rk_lt y
  have e1 := wd_eq hx
  have e2 := wd_eq hy
  cases c1 : nanB x <;> cases c2 : nanB y <;> simp [c1, c2] at h
  · refine .inl ?_
    cases d1 : sb x <;> cases d2 : sb y <;> simp [d1, d2] at h
    · have : rk x = rk y := by omega
      rw [e1, e2, d1, d2, this]
    · omega
    · omega
    · have : rk x = rk y := by omega
      rw [e1, e2, d1, d2, this]
  · cases d1 : sb x <;> simp [d1] at h <;> omega
  · cases d2 : sb y <;> simp [d2] at h <;> omega
  · exact .inr ⟨rfl, rfl⟩
/-- -1, 0, 1. -/
def cmpI (a b : Int) : Int := if a < b then -1 else if b < a then 1 else 0
def cmpK (x y : Nat) : Int := cmpI (key x) (key y)
end Go.Proofs.YtghnlhadohnenaaGreatDoor
