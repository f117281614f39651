/- math.Ldexp at a whole number: the walk. -/
import Derived.Test.YtghnlhadohnenaaGreatDoorNumT
import Derived.Outline
namespace Go.Proofs.YtghnlhadohnenaaGreatDoor
set_option exponentiation.threshold 3000
open Go.Shelf Go.RowKit Go.Proofs.YtghnlhadohnenaaGreatDoorW.PrintWords Go.Proofs.YtghnlhadohnenaaGreatDoorW.PrintLast Go.Proofs.YtghnlhadohnenaaGreatDoorW.PrintMore
set_option linter.unusedVariables false
set_option linter.unusedSimpArgs false
def LdE (n : Nat) (k : Int) (w : World) (e : Ending) (w' : World) : Prop := ∃ r, e = .returned (.float .f64 r) ∧ r < 18446744073709551616 ∧ nanB r = false ∧ Scale n k r ∧ w' = w
set_option maxRecDepth 100000 in
theorem Inf_any (w : World) : Calls Tryz.prog 39 #[.int .i64 1] w fun e w' => e = .returned (.float .f64 topR) ∧ w' = w := by
  have hf := fun w => Float64frombits_run 9218868437227405312 w
  rw [show ((9218868437227405312 : Nat) : Int) = 9218868437227405312 from rfl] at hf
  go_enter Tryz.func39, Tryz.ntmps39
  go_wp2_with (simp only [hf])
  go_ret
  exact ⟨rfl, rfl⟩
theorem and63z (a : Nat) (h : a < 9223372036854775808) : bits .and .u64 (a : Int) 9223372036854775808 = 0 := by
  have h1 := u64_and_nat a 9223372036854775808 (by omega) (by omega)
  have e : a &&& 9223372036854775808 = 0 := by
    have k1 : a &&& 9223372036854775808 ≤ a := Nat.and_le_left
    have k2 : (a &&& 9223372036854775808) % 2 ^ 63 = a % 2 ^ 63 &&& 9223372036854775808 % 2 ^ 63 := Nat.and_mod_two_pow ..
    rw [show 9223372036854775808 % 2 ^ 63 = 0 by decide, Nat.and_zero] at k2
    omega
  rw [e] at h1
  exact h1
theorem and63n : bits .andNot .u64 0 9223372036854775808 = 0 := by decide
theorem or00 : bits .or .u64 0 0 = 0 := by decide
set_option maxRecDepth 100000 in
theorem Copysign_any (a : Nat) (h : a < 9223372036854775808) (w : World) : Calls Tryz.prog 79 #[.float .f64 0, .float .f64 a] w fun e w' => e = .returned (.float .f64 0) ∧ w' = w := by
  have h1 := and63z a h
  have h2 := and63n
  have h3 := or00
  have hf0 := fun w => Float64frombits_run 0 w
  rw [show ((0 : Nat) : Int) = 0 from rfl] at hf0
  go_enter Tryz.func79, Tryz.ntmps79
  go_wp2_with (first | simp only [Float64bits_run] | simp only [hf0])
  go_ret
  exact ⟨rfl, rfl⟩
theorem IsNaN_any (x : Nat) (hx : x < 18446744073709551616) (w : World) : Calls Tryz.prog 94 #[.float .f64 x] w fun e w' => e = .returned (.bool (nanB x)) ∧ w' = w := by
  have h := neqF_self hx
  go_enter Tryz.func94, Tryz.ntmps94
  go_wp2
  go_ret
  exact ⟨rfl, rfl⟩
set_option maxRecDepth 100000 in
theorem normalize_any (a : Nat) (h : a ≤ topR) (h2 : 4503599627370496 ≤ a) (w : World) : Calls Tryz.prog 95 #[.float .f64 a] w fun e w' => e = .returned (.tuple #[.float .f64 a, .int .i64 0]) ∧ w' = w := by
  have ht : a ≤ 9218868437227405312 := h
  have hn : nanB a = false := nan_wd (s := false) h
  have hrk : rk a = a := wd_rk (s := false) (by omega)
  have hsv : sv a = (a : Int) := sv_wd (s := false) (by omega)
  have hl := ltF_iff (x := a) (y := 4503599627370496) (by omega) (by omega) hn (by decide)
  unfold ltF at hl
  rw [hsv, show sv 4503599627370496 = 4503599627370496 by decide] at hl
  have hl2 : decide ((a : Int) < 4503599627370496) = false := decide_eq_false (by omega)
  rw [hl2] at hl
  have hA := Abs_any a (by omega)
  rw [hrk] at hA
  have HA := Aside0.mk hA
  clear hA hrk hsv hl2 hn ht
  go_enter Tryz.func95, Tryz.ntmps95
  go_wp2_with (go_at_call 59; refine (HA.out _).mono ?_; rintro e w' ⟨rfl, rfl⟩)
  go_ret2
  exact ⟨rfl, rfl⟩
end Go.Proofs.YtghnlhadohnenaaGreatDoor
