/- Which doubles are whole, in the program and in the reference: the walks. -/
import Derived.Test.YtghnlhadohnenaaGreatDoorNumF
namespace Go.Proofs.YtghnlhadohnenaaGreatDoor
set_option exponentiation.threshold 3000
open Go.Shelf Go.RowKit Go.Lib Go.Proofs.YtghnlhadohnenaaGreatDoorW.PrintWords Go.Proofs.YtghnlhadohnenaaGreatDoorW.PrintMore
set_option linter.unusedVariables false
set_option linter.unusedSimpArgs false
theorem sub_self_num (s : Bool) (a : Nat) (h : a < topR) : floatBits .sub .f64 (wd s a) (wd s a) = some 0 := by
  show Ieee.double.sub (wd s a) (wd s a) = some 0
  unfold Ieee.Format.sub
  rw [read_num s a h]
  simp only [Ieee.Datum.opposite, Ieee.Datum.sum, signed_eq, Int.min_self, Int.sub_self, Int.toNat_zero, Nat.pow_zero, Nat.mul_one]
  have e : sg s (dm a) + sg (!s) (dm a) = 0 := by cases s <;> simp [sg] <;> omega
  rw [e]
  cases s <;> rfl
theorem sub_self_inf (s : Bool) : floatBits .sub .f64 (wd s topR) (wd s topR) = none := by cases s <;> decide +kernel
theorem sub_nan (x y : Nat) (hx : x < 18446744073709551616) (hn : nanB x = true) : floatBits .sub .f64 x y = none := by
  obtain ⟨s, p, e⟩ := read_nanB hx hn
  show Ieee.double.sub x y = none
  unfold Ieee.Format.sub
  rw [e]
  rfl
theorem finite_any (x : Nat) (hx : x < 18446744073709551616) (w : World) : Calls Tryz.prog 46 #[.float .f64 x] w fun e w' => e = .returned (.bool (decide (rk x < topR))) ∧ Below w.heap.size w w' := by
  have HN := Aside0.mk ref_NaN
  have key : floatBits .sub .f64 x x = none ∨ (floatBits .sub .f64 x x = some 0 ∧ rk x < topR ∧ nanB x = false) := by
    rcases word_cases hx with hn | ⟨s, a, rfl, ha, hn⟩
    · exact .inl (sub_nan x x hx hn)
    · by_cases c : a < topR
      · exact .inr ⟨sub_self_num s a c, by rw [wd_rk (by unfold topR at ha; omega)]; exact c, hn⟩
      · have : a = topR := by omega
        subst this
        exact .inl (sub_self_inf s)
  rcases key with h | ⟨h, h1, h2⟩
  · have hr : ¬ rk x < topR := by
      intro hr
      have hs := sub_self_num (sb x) (rk x) hr
      rw [← wd_eq hx, h] at hs
      cases hs
    obtain ⟨r, k1, k2, hop⟩ := nan_draw .sub (by simp) x x h w
    rw [decide_eq_false hr]
    clear h hr
    go_enter Tryz.func46, Tryz.ntmps46
    go_wp2_with (first | simp only [hop] | (go_at_call 44; refine (HN.out _ (by assumption) _).mono ?_; rintro e w' ⟨rfl, rfl⟩))
    go_ret
    exact ⟨rfl, (Below.refl _ _).drew⟩
  · have hop : ∀ t w, (binOp .sub t (.float .f64 x) (.float .f64 x)).run Tryz.prog w = .ok (.float .f64 0) w := fun t w => run_float_arith w .sub t .f64 _ _ _ h
    rw [decide_eq_true h1]
    have hz := nan_zero
    have hz2 := zero_lt64
    clear h h1
    go_enter Tryz.func46, Tryz.ntmps46
    go_wp2_with (first | simp only [hop] | (go_at_call 44; refine (HN.out _ (by assumption) _).mono ?_; rintro e w' ⟨rfl, rfl⟩))
    go_ret
    exact ⟨rfl, Below.refl _ _⟩
theorem big_any (w : World) : Calls Tryz.prog 51 #[] w fun e w' => e = .returned (.float .f64 bigR) ∧ w' = w := by
  go_enter Tryz.func51, Tryz.ntmps51
  go_wp2
  go_ret
  exact ⟨rfl, rfl⟩
theorem bigR_lt64 : bigR < 18446744073709551616 := by decide
theorem nan_big : nanB bigR = false := by decide
theorem sv_big : sv bigR = bigR := by decide
/-- What the reference's whole tells of a word from 0 on. -/
def wholeN (r : Nat) : Int × Bool := if r < bigR ∧ whB r = true then ((qT r : Int), true) else (0, false)
theorem whole_any (x : Nat) (hx : x < 18446744073709551616) (hn : nanB x = false) (h0 : 0 ≤ sv x) (w : World) :
    Calls Tryz.prog 47 #[.float .f64 x] w fun e w' => e = .returned (.tuple #[.int .i64 (wholeN (rk x)).1, .bool (wholeN (rk x)).2]) ∧ w' = w := by
  have HB := Aside0.mk big_any
  have hg := gtF_iff hx bigR_lt64 hn nan_big
  have he := eqF_iff hx bigR_lt64 hn nan_big
  unfold gtF at hg
  unfold eqF at he
  rw [sv_big] at hg he
  have hsv : sv x = rk x := by rcases sv_cases x with ⟨_, b⟩ | ⟨_, b⟩ <;> omega
  rw [hsv] at hg he
  by_cases c : rk x < bigR
  · rw [decide_eq_false (by omega)] at hg he
    obtain ⟨s, a, e, ha, _⟩ := (word_cases hx).resolve_left (by rw [hn]; decide)
    have hab : a < 9223372036854775808 := by unfold topR at ha; omega
    have era : rk x = a := by rw [e, wd_rk hab]
    have esa : sb x = s := by rw [e, wd_sb hab]
    rw [era] at c
    have hq : sg s (qT a) = (qT a : Int) := by
      unfold sg
      cases s
      · rfl
      · have : a = 0 := by
          unfold sv at hsv
          rw [esa, era] at hsv
          simp [sg] at hsv
          omega
        subst this
        have : qT 0 = 0 := by decide +kernel
        rw [this]; rfl
    have hti := toInt_whole s a c .i64 (.inl rfl)
    rw [← e, hq] at hti
    have hc1 : ∀ w, (convert 25 3 (.float .f64 x)).run Tryz.prog w = .ok (.int .i64 (qT a)) w := fun w => run_convert_float_int w 25 3 .f64 .i64 x _ (by rw [Tryz.underlying25]; rfl) Tryz.underlying3 hti
    have hqt := qT_lt c
    obtain ⟨r1, r2, r3⟩ := rn_facts (n := qT a) (by omega)
    have hfl : floatOfInt .f64 ((qT a : Nat) : Int) = rn (qT a) := by
      rw [r3 _ (by simp), decide_eq_false (by omega)]
      rfl
    have hne : (FloatKind.f64.format.order (rn (qT a)) x != some .eq) = !whB a := by
      have hrl : rn (qT a) < 9223372036854775808 := by unfold topR at r1; omega
      have hrn : nanB (rn (qT a)) = false := nan_wd (s := false) (by omega)
      have hrs : sv (rn (qT a)) = rn (qT a) := sv_wd (s := false) hrl
      have h1 := eqF_iff (x := rn (qT a)) (y := x) (by omega) hx hrn hn
      unfold eqF at h1
      rw [bne, h1, hrs, hsv, era]
      congr 1
      have h2 := rn_qT_iff c
      cases hw : whB a with
      | true => exact decide_eq_true (by rw [h2.2 hw])
      | false => exact decide_eq_false (fun hh => by
          rw [h2.1 (by omega)] at hw
          cases hw)
    rw [era]
    cases hw : whB a with
    | true =>
      have HW : Aside0 (wholeN a = ((qT a : Int), true)) := Aside0.mk (by unfold wholeN; rw [if_pos ⟨c, hw⟩])
      rw [hw] at hne
      clear hti r1 r2 r3 hq hw c era esa hsv e
      go_enter Tryz.func47, Tryz.ntmps47
      go_wp2_with (first | (go_at_call 51; refine (HB.out _).mono ?_; rintro e w' ⟨rfl, rfl⟩) | simp only [hc1])
      go_ret2
      exact ⟨by rw [HW.out]; rfl, rfl⟩
    | false =>
      have HW : Aside0 (wholeN a = (0, false)) := Aside0.mk (by unfold wholeN; rw [if_neg (fun h => by rw [h.2] at hw; cases hw)])
      rw [hw] at hne
      clear hti r1 r2 r3 hq hw c era esa hsv e
      go_enter Tryz.func47, Tryz.ntmps47
      go_wp2_with (first | (go_at_call 51; refine (HB.out _).mono ?_; rintro e w' ⟨rfl, rfl⟩) | simp only [hc1])
      go_ret2
      exact ⟨by rw [HW.out]; rfl, rfl⟩
  · have HW : Aside0 (wholeN (rk x) = (0, false)) := Aside0.mk (by unfold wholeN; rw [if_neg (fun h => c h.1)])
    by_cases c2 : rk x = bigR
    · rw [decide_eq_false (by omega)] at hg
      rw [decide_eq_true (by omega)] at he
      clear c c2 hsv
      go_enter Tryz.func47, Tryz.ntmps47
      go_wp2_with (go_at_call 51; refine (HB.out _).mono ?_; rintro e w' ⟨rfl, rfl⟩)
      go_ret2
      exact ⟨by rw [HW.out]; rfl, rfl⟩
    · rw [decide_eq_true (by omega)] at hg
      clear c c2 hsv he
      go_enter Tryz.func47, Tryz.ntmps47
      go_wp2_with (go_at_call 51; refine (HB.out _).mono ?_; rintro e w' ⟨rfl, rfl⟩)
      go_ret2
      exact ⟨by rw [HW.out]; rfl, rfl⟩
end Go.Proofs.YtghnlhadohnenaaGreatDoor
