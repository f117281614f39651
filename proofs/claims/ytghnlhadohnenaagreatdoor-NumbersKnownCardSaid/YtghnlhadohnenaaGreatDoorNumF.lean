/- Whole numbers among doubles: the walks. -/
import Derived.Test.YtghnlhadohnenaaGreatDoorNumD
import Derived.Test.YtghnlhadohnenaaGreatDoorNumG
import Derived.Laws.BitsAllLaws
namespace Go.Proofs.YtghnlhadohnenaaGreatDoor
set_option exponentiation.threshold 3000
open Go.Shelf Go.RowKit Go.Lib Go.Proofs.YtghnlhadohnenaaGreatDoorW.PrintWords Go.Proofs.YtghnlhadohnenaaGreatDoorW.PrintMore
set_option linter.unusedVariables false
set_option linter.unusedSimpArgs false
theorem and63 (x : Nat) (hx : x < 18446744073709551616) : bits .andNot .u64 (x : Int) 9223372036854775808 = ((rk x : Nat) : Int) := by
  have h := u64_andNot_nat x 9223372036854775808 hx (by omega)
  have e : x &&& (18446744073709551615 - 9223372036854775808) = rk x := by
    rw [show 18446744073709551615 - 9223372036854775808 = 2 ^ 63 - 1 by decide, Nat.and_two_pow_sub_one_eq_mod]
    rfl
  rw [e] at h
  exact h
set_option maxRecDepth 100000 in
theorem Abs_any (x : Nat) (hx : x < 18446744073709551616) (w : World) : Calls Tryz.prog 59 #[.float .f64 x] w fun e w' => e = .returned (.float .f64 (rk x)) ∧ w' = w := by
  have h := and63 x hx
  go_enter Tryz.func59, Tryz.ntmps59
  go_wp2_with (first | simp only [Float64bits_run] | simp only [Float64frombits_run])
  go_ret
  exact ⟨rfl, rfl⟩
theorem rk_rk (x : Nat) : rk (rk x) = rk x := Nat.mod_eq_of_lt (rk_lt x)
theorem sb_rk (x : Nat) : sb (rk x) = false := decide_eq_false (by have := rk_lt x; omega)
theorem nan_rk (x : Nat) : nanB (rk x) = nanB x := by unfold nanB; rw [rk_rk]
theorem sv_rk (x : Nat) : sv (rk x) = rk x := by unfold sv; rw [rk_rk, sb_rk]; rfl
theorem rk_lt64 (x : Nat) : rk x < 18446744073709551616 := by have := rk_lt x; omega
theorem IsInf_any (x : Nat) (hx : x < 18446744073709551616) (w : World) : Calls Tryz.prog 32 #[.float .f64 x, .int .i64 0] w fun e w' => e = .returned (.bool (decide (rk x = topR))) ∧ w' = w := by
  have HA := Aside0.mk (Abs_any x hx)
  have h : (FloatKind.f64.format.order (rk x) 9218868437227405311 == some .gt) = decide (rk x = topR) := by
    cases hn : nanB x with
    | true =>
      have h1 := gtF_nan (rk_lt64 x) (y := 9218868437227405311) (by omega) (.inl (by rw [nan_rk]; exact hn))
      unfold gtF at h1
      rw [h1]
      unfold nanB at hn
      have := of_decide_eq_true hn
      exact (decide_eq_false (by omega)).symm
    | false =>
      have h1 := gtF_iff (rk_lt64 x) (y := 9218868437227405311) (by omega) (by rw [nan_rk]; exact hn) (by decide)
      unfold gtF at h1
      rw [h1, sv_rk, show sv 9218868437227405311 = 9218868437227405311 by decide]
      unfold nanB at hn
      have := of_decide_eq_false hn
      unfold topR at *
      by_cases c : rk x = 9218868437227405312
      · rw [decide_eq_true c, decide_eq_true (by omega)]
      · rw [decide_eq_false c, decide_eq_false (by omega)]
  go_enter Tryz.func32, Tryz.ntmps32
  go_wp2_with (go_at_call 59; refine (HA.out _).mono ?_; rintro e w' ⟨rfl, rfl⟩)
  go_ret
  exact ⟨rfl, rfl⟩
def integralS (name : String) (way : Ieee.Toward) (x : Nat) : Ieee.Datum → Sem Value
  | .nan s t => if FloatKind.f64.format.quiet t = t then pure (.float .f64 x) else do
      let kept ← choose (.extern "math.Floor,Ceil,Trunc,RoundToEven.signallingNaN kept" 2)
      pure (.float .f64 (if kept == 1 then x else FloatKind.f64.encode (.nan s (FloatKind.f64.format.quiet t))))
  | d => pure (.float .f64 (FloatKind.f64.encode (d.integral way)))
theorem toIntegral_eq (name : String) (way : Ieee.Toward) (x : Nat) : Extern.MathFloor.toIntegral name way #[.float .f64 x] = integralS name way x (FloatKind.f64.decode x) := rfl
theorem archTrunc_run (s : Bool) (a : Nat) (h : a < bigR) (w : World) : (callFunc 60 #[.float .f64 (wd s a)]).run Tryz.prog w = .ok (.value (.float .f64 (wd s (rn (qT a))))) w := by
  have hb := bigR_lt
  have hr := read_num s a (by omega)
  have ht := trunc_num s a h
  rw [run_callFunc_extern Tryz.func60 (by kernel_rfl) (by kernel_rfl) (by kernel_rfl) (e := Extern.MathFloor.toIntegral "math.archTrunc" .zero) (by kernel_rfl)]
  rw [toIntegral_eq, show FloatKind.f64.decode (wd s a) = Ieee.double.read (wd s a) from rfl, ← ht, hr]
  rfl
theorem Trunc_num (s : Bool) (a : Nat) (h : a < bigR) (w : World) : Calls Tryz.prog 33 #[.float .f64 (wd s a)] w fun e w' => e = .returned (.float .f64 (wd s (rn (qT a)))) ∧ w' = w := by
  have H := archTrunc_run s a h
  go_enter Tryz.func33, Tryz.ntmps33
  go_wp2_with (simp only [H])
  go_ret
  exact ⟨rfl, rfl⟩
/-- What math.Floor gives: of a nan a nan. -/
def floorP (x r : Nat) : Prop := r < 18446744073709551616 ∧ ((nanB x = true ∧ nanB r = true) ∨ (nanB x = false ∧ r = wd (sb x) (flR (sb x) (rk x))))
theorem archFloor_num (s : Bool) (a : Nat) (h : a ≤ topR) (w : World) : (callFunc 73 #[.float .f64 (wd s a)]).run Tryz.prog w = .ok (.value (.float .f64 (wd s (flR s a)))) w := by
  have ht := floor_num s a h
  rw [run_callFunc_extern Tryz.func73 (by kernel_rfl) (by kernel_rfl) (by kernel_rfl) (e := Extern.MathFloor.toIntegral "math.archFloor" .down) (by kernel_rfl)]
  rw [toIntegral_eq, show FloatKind.f64.decode (wd s a) = Ieee.double.read (wd s a) from rfl, ← ht]
  rcases read_of s h with ⟨h1, hr⟩ | ⟨h1, hr⟩ <;> rw [hr] <;> rfl
theorem quiet_lt {t : Nat} (h : t < 4503599627370496) : FloatKind.f64.format.quiet t < 4503599627370496 := by
  show t ||| 2 ^ 51 < 2 ^ 52
  exact Nat.or_lt_two_pow h (by decide)
theorem quiet_pos (t : Nat) : 0 < FloatKind.f64.format.quiet t := by
  show 0 < t ||| 2 ^ 51
  have : 2 ^ 51 ≤ t ||| 2 ^ 51 := Nat.right_le_or
  omega
/-- Of a nan a nan; perhaps one draw. -/
theorem archFloor_nan (x : Nat) (hx : x < 18446744073709551616) (hn : nanB x = true) (w : World) : ∃ r w', r < 18446744073709551616 ∧ nanB r = true ∧ (w' = w ∨ w' = w.drew) ∧ (callFunc 73 #[.float .f64 x]).run Tryz.prog w = .ok (.value (.float .f64 r)) w' := by
  have hx' := wd_eq hx
  unfold nanB at hn
  have hn' := of_decide_eq_true hn
  have hrk := rk_lt x
  have hr := read_nan (sb x) (rk x) hn' hrk
  rw [← hx'] at hr
  rw [run_callFunc_extern Tryz.func73 (by kernel_rfl) (by kernel_rfl) (by kernel_rfl) (e := Extern.MathFloor.toIntegral "math.archFloor" .down) (by kernel_rfl)]
  rw [toIntegral_eq, show FloatKind.f64.decode x = Ieee.double.read x from rfl, hr]
  unfold integralS
  simp only
  split
  · exact ⟨x, w, hx, hn, .inl rfl, rfl⟩
  · have ht : rk x - topR < 4503599627370496 := by unfold topR; omega
    have q1 := quiet_lt ht
    have q2 := quiet_pos (rk x - topR)
    have e : FloatKind.f64.encode (.nan (sb x) (FloatKind.f64.format.quiet (rk x - topR))) = wd (sb x) (topR + FloatKind.f64.format.quiet (rk x - topR)) := by
      show Ieee.double.word (sb x) (topR + FloatKind.f64.format.quiet (rk x - topR) % 4503599627370496) = _
      rw [Nat.mod_eq_of_lt q1, wd_word]
    rw [e]
    generalize FloatKind.f64.format.quiet (rk x - topR) = q at *
    have hq : topR + q < 9223372036854775808 := by unfold topR; omega
    have k2 : nanB (wd (sb x) (topR + q)) = true := by
      unfold nanB
      rw [wd_rk hq]
      exact decide_eq_true (by omega)
    generalize hk : (if (Question.extern "math.Floor,Ceil,Trunc,RoundToEven.signallingNaN kept" 2).cut (w.tape w.drawn (.extern "math.Floor,Ceil,Trunc,RoundToEven.signallingNaN kept" 2)) == 1 then x else wd (sb x) (topR + q)) = r
    refine ⟨r, w.drew, ?_, ?_, .inr rfl, ?_⟩
    · rw [← hk]
      split
      · exact hx
      · exact wd_lt hq
    · rw [← hk]
      split
      · exact hn
      · exact k2
    · rw [← hk]
      simp [run_choose_drew, Question.forced]
set_option maxRecDepth 100000 in
theorem Floor_any (x : Nat) (hx : x < 18446744073709551616) (w : World) : Calls Tryz.prog 50 #[.float .f64 x] w fun e w' => ∃ r, e = .returned (.float .f64 r) ∧ floorP x r ∧ Below w.heap.size w w' := by
  rcases word_cases hx with hn | ⟨s, a, rfl, ha, hn⟩
  · obtain ⟨r, w1, h1, h2, h3, H⟩ := archFloor_nan x hx hn w
    go_enter Tryz.func50, Tryz.ntmps50
    go_wp2_with (simp only [H])
    go_ret
    refine ⟨r, rfl, ⟨h1, .inl ⟨hn, h2⟩⟩, ?_⟩
    rcases h3 with rfl | rfl
    · exact Below.refl _ _
    · exact (Below.refl _ _).drew
  · have hlt : a < 9223372036854775808 := by unfold topR at ha; omega
    have H := archFloor_num s a ha
    have hf : flR s a < 9223372036854775808 := by
      unfold flR
      split
      · exact rk_lt _
      · exact hlt
    go_enter Tryz.func50, Tryz.ntmps50
    go_wp2_with (simp only [H])
    go_ret
    exact ⟨_, rfl, ⟨wd_lt hf, .inr ⟨hn, by rw [wd_rk hlt, wd_sb hlt]⟩⟩, Below.refl _ _⟩
theorem Down_any (x : Nat) (hx : x < 18446744073709551616) (w : World) : Calls Tryz.prog 19 #[.float .f64 x] w fun e w' => ∃ r, e = .returned (.float .f64 r) ∧ floorP x r ∧ Below w.heap.size w w' := by
  have H := Aside0.mk (Floor_any x hx w)
  go_enter Tryz.func19, Tryz.ntmps19
  go_wp2_with (go_at_call 50; refine (H.out).mono ?_; rintro e w' ⟨r, rfl, h1, h2⟩)
  go_ret
  exact ⟨r, rfl, h1, h2⟩
end Go.Proofs.YtghnlhadohnenaaGreatDoor
