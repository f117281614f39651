/- cnf.Norm: what it answers. -/
import Derived.Test.YtjghhdgebmoohaaCnfE
import Derived.Test.YtjghhdgebmoohaaShelf
import Derived.Sort.OwnSortedInts
import Derived.Lib.RowBridge
import Derived.Lib.SortBridge
namespace Go.Proofs.Ytjghhdgebmoohaa
open Go.RowKit Go.Proofs.YtjghhdgebmoohaaW.PrintWords Go.Proofs.YtjghhdgebmoohaaW.PrintMore Go.Lib Go.Sort
attribute [local go_sem] max2_int min2_int max_two min_two
set_option linter.unusedVariables false
set_option linter.unusedSimpArgs false
/-- A variable's number, as the machine has it. -/
def sizeW (x : Int) : Int := if x < wrap64 (-x) then wrap64 (-x) else x
def orTwo (x y : Int) : Int := if x ≠ 0 then x else y
def cfN (x y : Int) : Int := orTwo (Lib.compareInt (sizeW x) (sizeW y)) (Lib.compareInt y x)
theorem ltN (x y : Int) : ltOf cfN x y = decide (sizeW x < sizeW y ∨ (sizeW x = sizeW y ∧ y < x)) := by
  unfold ltOf cfN orTwo Lib.compareInt
  generalize sizeW x = a
  generalize sizeW y = b
  rw [Bool.eq_iff_iff]
  simp only [decide_eq_true_eq]
  by_cases h1 : a < b
  · simp [h1]
  · by_cases h2 : a > b
    · simp [h1, h2]; omega
    · have : a = b := by omega
      subst this
      simp
      by_cases h3 : y < x
      · simp [h3]
      · by_cases h4 : x < y <;> simp [h3, h4]
theorem swoN : SWO (ltOf cfN) where
  irrefl x := by rw [ltN]; simp
  trans x y z h1 h2 := by rw [ltN] at *; simp only [decide_eq_true_eq] at *; omega
  ntrans x y z h1 h2 := by rw [ltN] at *; simp only [decide_eq_false_iff_not] at *; omega
theorem totN (x y : Int) (h1 : ltOf cfN x y = false) (h2 : ltOf cfN y x = false) : x = y := by
  rw [ltN] at *
  simp only [decide_eq_false_iff_not] at *
  omega
theorem cnf_sizeW (x : Int) (w : World) : Calls Try.prog 47 #[.int .i64 x] w fun e w' => e = .returned (.int .i64 (sizeW x)) ∧ w' = w := by
  by_cases hx : x < wrap64 (-x)
  · have E : Aside0 (sizeW x = wrap64 (-x)) := ⟨by simp [sizeW, hx]⟩
    go_enter Try.func47, Try.ntmps47
    go_wp2
    go_ret
    exact ⟨by rw [E.out]; rfl, rfl⟩
  · have E : Aside0 (sizeW x = x) := ⟨by simp [sizeW, hx]⟩
    go_enter Try.func47, Try.ntmps47
    go_wp2
    go_ret
    exact ⟨by rw [E.out]; rfl, rfl⟩
set_option maxHeartbeats 1000000 in
/-- cmp.Or of two numbers. -/
theorem cmp_Or_two (b : Nat) (x y : Int) (w : World) (h0 : w.cell? ⟨b, 0, none⟩ = some (.int .i64 x)) (h1 : w.cell? ⟨b, 1, none⟩ = some (.int .i64 y)) :
    Calls Try.prog 45 #[.slice (some ⟨b, 0, none⟩) 2 2] w fun e w' => e = .returned (.int .i64 (orTwo x y)) ∧ w' = w := by
  by_cases hx : x = 0
  · have b1 : (x != 0) = false := by simp [hx]
    have E : Aside0 (orTwo x y = y) := ⟨by unfold orTwo; rw [if_neg (by simpa using hx)]⟩
    by_cases hy : y = 0
    · have b2 : (y != 0) = false := by simp [hy]
      have HY := Aside0.mk hy
      clear hx hy
      go_enter Try.func45, Try.ntmps45
      go_wp2
      refine wp_loop_rounds 3 ?_
      rw [rounds_succ]
      go_wp2
      rw [rounds_succ]
      go_wp2
      rw [rounds_succ]
      go_wp2
      go_ret
      exact ⟨by rw [E.out, HY.out]; rfl, rfl⟩
    · have b2 : (y != 0) = true := by simp [hy]
      clear hx hy
      go_enter Try.func45, Try.ntmps45
      go_wp2
      refine wp_loop_rounds 2 ?_
      rw [rounds_succ]
      go_wp2
      rw [rounds_succ]
      go_wp2
      go_ret
      exact ⟨by rw [E.out]; rfl, rfl⟩
  · have b1 : (x != 0) = true := by simp [hx]
    have E : Aside0 (orTwo x y = x) := ⟨by unfold orTwo; rw [if_pos hx]⟩
    clear hx
    go_enter Try.func45, Try.ntmps45
    go_wp2
    refine wp_loop_rounds 1 ?_
    rw [rounds_succ]
    go_wp2
    go_ret
    exact ⟨by rw [E.out]; rfl, rfl⟩
set_option maxHeartbeats 1000000 in
theorem norm1_any (x y : Int) (w : World) : Calls Try.prog 44 #[.int .i64 x, .int .i64 y] w fun e w' => e = .returned (.int .i64 (cfN x y)) ∧ ∃ q os', w' = grow (w.drewN q) os' := by
  have H1 := Aside0.mk (fun W => cnf_sizeW x W)
  have H2 := Aside0.mk (fun W => cnf_sizeW y W)
  have H3 := Aside0.mk (fun W => Try.cmp_Compare_int (sizeW x) (sizeW y) W)
  have H4 := Aside0.mk (fun W => Try.cmp_Compare_int y x W)
  have E : Aside0 (cfN x y = orTwo (Lib.compareInt (sizeW x) (sizeW y)) (Lib.compareInt y x)) := ⟨rfl⟩
  generalize sizeW x = a at *
  generalize sizeW y = b at *
  generalize Lib.compareInt a b = c1 at *
  generalize Lib.compareInt y x = c2 at *
  have H5 := Aside0.mk (cmp_Or_two w.heap.size c1 c2 (w.alloc (.cells #[.int .i64 c1, .int .i64 c2] 3)) (by simp) (by simp))
  go_enter Try.func44, Try.ntmps44
  go_wp2_with fail
  refine (H1.out _).mono ?_
  rintro e w' ⟨rfl, rfl⟩
  go_wp2_with fail
  refine (H2.out _).mono ?_
  rintro e w' ⟨rfl, rfl⟩
  go_wp2_with fail
  refine (H3.out _).mono ?_
  rintro e w' ⟨rfl, rfl⟩
  go_wp2_with fail
  refine (H4.out _).mono ?_
  rintro e w' ⟨rfl, rfl⟩
  go_wp2_with fail
  refine (H5.out).mono ?_
  rintro e w2 ⟨rfl, rfl⟩
  go_wp2
  go_ret
  exact ⟨by rw [E.out]; rfl, 0, _, alloc_eq_grow _ _⟩
end Go.Proofs.Ytjghhdgebmoohaa
