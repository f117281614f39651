/- Whole and Down, in the program and in the reference: the walks. -/
import Derived.Test.YtghnlhadohnenaaGreatDoorNumH
namespace Go.Proofs.YtghnlhadohnenaaGreatDoor
set_option exponentiation.threshold 3000
open Go.Shelf Go.RowKit Go.Lib Go.Proofs.YtghnlhadohnenaaGreatDoorW.PrintWords Go.Proofs.YtghnlhadohnenaaGreatDoorW.PrintMore
set_option linter.unusedVariables false
set_option linter.unusedSimpArgs false
theorem xor63 {r : Nat} (h : r < 2 ^ 63) : r ^^^ 2 ^ 63 = 2 ^ 63 + r := by
  apply Nat.eq_of_testBit_eq
  intro i
  rw [Nat.testBit_xor, Nat.testBit_two_pow]
  rcases Nat.lt_trichotomy i 63 with c | c | c
  · rw [Nat.testBit_two_pow_add_gt c, decide_eq_false (by omega), Bool.xor_false]
  · subst c
    rw [Nat.testBit_two_pow_add_eq, decide_eq_true rfl, Bool.xor_true]
  · have h1 : 2 ^ 64 ≤ 2 ^ i := Nat.pow_le_pow_right (by omega) (by omega)
    rw [Nat.testBit_lt_two_pow (x := r) (by omega), Nat.testBit_lt_two_pow (x := 2 ^ 63 + r) (by omega), decide_eq_false (by omega)]
    rfl
theorem neg_wd {x : Nat} (hx : x < 18446744073709551616) : Op.negFloat .f64 x = wd (!sb x) (rk x) := by
  show x ^^^ 2 ^ 63 = _
  have h := xor63 (rk_lt x)
  have e := wd_eq hx
  generalize rk x = r at *
  cases hs : sb x <;> rw [hs] at e
  · rw [e]
    show r ^^^ 2 ^ 63 = 9223372036854775808 + r
    rw [h]
  · rw [e]
    show (9223372036854775808 + r) ^^^ 2 ^ 63 = r
    rw [show 9223372036854775808 + r = r ^^^ 2 ^ 63 from h.symm, Nat.xor_assoc, Nat.xor_self, Nat.xor_zero]
/-- What Whole tells. -/
def wholeS (x : Nat) : Int × Bool := if nanB x = false ∧ rk x < bigR ∧ whB (rk x) = true then (sg (sb x) (qT (rk x)), true) else (0, false)
theorem Whole_any (x : Nat) (hx : x < 18446744073709551616) (w : World) :
    Calls Tryz.prog 17 #[.float .f64 x] w fun e w' => e = .returned (.tuple #[.int .i64 (wholeS x).1, .bool (wholeS x).2]) ∧ w' = w := by
  cases hn : nanB x with
  | true =>
    have HW : Aside0 (wholeS x = (0, false)) := Aside0.mk (by unfold wholeS; rw [if_neg (fun h => by rw [hn] at h; cases h.1)])
    have h1 := gtF_nan hx (y := 14069245235905429504) (by omega) (.inl hn)
    unfold gtF at h1
    go_enter Tryz.func17, Tryz.ntmps17
    go_wp2
    go_ret2
    exact ⟨by rw [HW.out]; rfl, rfl⟩
  | false =>
    have hg := gtF_iff hx (y := 14069245235905429504) (by omega) hn (by decide)
    have hl := ltF_iff hx (y := 4845873199050653696) (by omega) hn (by decide)
    unfold gtF at hg
    unfold ltF at hl
    rw [show sv 14069245235905429504 = -4845873199050653696 by decide] at hg
    rw [show sv 4845873199050653696 = 4845873199050653696 by decide] at hl
    have hsv := sv_cases x
    by_cases c : rk x < bigR
    · have c' : rk x < 4845873199050653696 := c
      rw [decide_eq_true (by omega)] at hg hl
      obtain ⟨s, a, e, ha, _⟩ := (word_cases hx).resolve_left (by rw [hn]; decide)
      have hab : a < 9223372036854775808 := by unfold topR at ha; omega
      have era : rk x = a := by rw [e, wd_rk hab]
      have esa : sb x = s := by rw [e, wd_sb hab]
      rw [era] at c
      have HT := Aside0.mk (Trunc_num s a c)
      rw [← e] at HT
      have hti := toInt_whole s a c .i64 (.inl rfl)
      rw [← e] at hti
      have hc1 : ∀ w, (convert 25 3 (.float .f64 x)).run Tryz.prog w = .ok (.int .i64 (sg s (qT a))) w := fun w => run_convert_float_int w 25 3 .f64 .i64 x _ (by rw [Tryz.underlying25]; rfl) Tryz.underlying3 hti
      have hqt := qT_lt c
      obtain ⟨r1, r2, r3⟩ := rn_facts (n := qT a) (by omega)
      have hne : (FloatKind.f64.format.order x (wd s (rn (qT a))) != some .eq) = !whB a := by
        have hrl : rn (qT a) < 9223372036854775808 := by unfold topR at r1; omega
        have h1 := eqF_iff (x := x) (y := wd s (rn (qT a))) hx (wd_lt hrl) hn (nan_wd (by omega))
        unfold eqF at h1
        rw [bne, h1, sv_wd hrl, show sv x = sg s a by rw [e]; exact sv_wd hab]
        congr 1
        have h2 := rn_qT_iff c
        cases hw : whB a with
        | true => exact decide_eq_true (by rw [h2.2 hw])
        | false => exact decide_eq_false (fun hh => by
            have : rn (qT a) = a := by unfold sg at hh; cases s <;> simp at hh <;> omega
            rw [h2.1 this] at hw
            cases hw)
      cases hw : whB a with
      | true =>
        have HW : Aside0 (wholeS x = (sg s (qT a), true)) := Aside0.mk (by unfold wholeS; rw [era, esa, if_pos ⟨hn, c, hw⟩])
        rw [hw] at hne
        clear hti r1 r2 r3 hw c c' era esa hsv e
        go_enter Tryz.func17, Tryz.ntmps17
        go_wp2_with (first | (go_at_call 33; refine (HT.out _).mono ?_; rintro e w' ⟨rfl, rfl⟩) | simp only [hc1])
        go_ret2
        exact ⟨by rw [HW.out]; rfl, rfl⟩
      | false =>
        have HW : Aside0 (wholeS x = (0, false)) := Aside0.mk (by unfold wholeS; rw [era, if_neg (fun h => by rw [h.2.2] at hw; cases hw)])
        rw [hw] at hne
        clear hti r1 r2 r3 hw c c' era esa hsv e
        go_enter Tryz.func17, Tryz.ntmps17
        go_wp2_with (first | (go_at_call 33; refine (HT.out _).mono ?_; rintro e w' ⟨rfl, rfl⟩) | simp only [hc1])
        go_ret2
        exact ⟨by rw [HW.out]; rfl, rfl⟩
    · have HW : Aside0 (wholeS x = (0, false)) := Aside0.mk (by unfold wholeS; rw [if_neg (fun h => c h.2.1)])
      have c' : ¬ rk x < 4845873199050653696 := c
      by_cases d : -4845873199050653696 < sv x
      · rw [decide_eq_true d] at hg
        rw [decide_eq_false (by omega)] at hl
        clear c c' d hsv
        go_enter Tryz.func17, Tryz.ntmps17
        go_wp2
        go_ret2
        exact ⟨by rw [HW.out]; rfl, rfl⟩
      · rw [decide_eq_false d] at hg
        clear c c' d hsv hl
        go_enter Tryz.func17, Tryz.ntmps17
        go_wp2
        go_ret2
        exact ⟨by rw [HW.out]; rfl, rfl⟩
theorem nan_neg {x : Nat} : nanB (wd (!sb x) (rk x)) = nanB x := by unfold nanB; rw [wd_rk (rk_lt x)]
theorem run_neg_float (x : Nat) (hx : x < 18446744073709551616) (w : World) : (Op.unary .neg (.float .f64 x)).run Tryz.prog w = .ok (.float .f64 (wd (!sb x) (rk x))) w := by
  rw [← neg_wd hx]
  rfl
theorem refWhole_any (x : Nat) (hx : x < 18446744073709551616) (w : World) :
    Calls Tryz.prog 18 #[.float .f64 x] w fun e w' => e = .returned (.tuple #[.int .i64 (wholeS x).1, .bool (wholeS x).2]) ∧ w' = w := by
  have hNx := ref_NaN x hx
  cases hn : nanB x with
  | true =>
    rw [hn] at hNx
    have HN := Aside0.mk hNx
    have HW : Aside0 (wholeS x = (0, false)) := Aside0.mk (by unfold wholeS; rw [if_neg (fun h => by rw [hn] at h; cases h.1)])
    go_enter Tryz.func18, Tryz.ntmps18
    go_wp2_with (go_at_call 44; refine (HN.out _).mono ?_; rintro e w' ⟨rfl, rfl⟩)
    go_ret2
    exact ⟨by rw [HW.out]; rfl, rfl⟩
  | false =>
    rw [hn] at hNx
    have HN := Aside0.mk hNx
    have hl := ltF_iff hx zero_lt64 hn nan_zero
    unfold ltF at hl
    rw [sv_zero] at hl
    have hsv := sv_cases x
    by_cases c : sv x < 0
    · rw [decide_eq_true c] at hl
      have hs : sb x = true := by rcases hsv with ⟨a, _⟩ | ⟨_, b⟩; exact a; omega
      have hng := Aside0.mk (run_neg_float x hx)
      rw [hs] at hng
      have hww : (wholeS x).2 = (wholeN (rk x)).2 ∧ (wholeS x).1 = -((wholeN (rk x)).1) := by
        unfold wholeN wholeS
        by_cases d : rk x < bigR ∧ whB (rk x) = true
        · rw [if_pos d, if_pos ⟨hn, d.1, d.2⟩, hs]
          simp [sg]
        · rw [if_neg d, if_neg (fun h => d ⟨h.2.1, h.2.2⟩)]
          simp
      have HW1 := Aside0.mk hww.2
      have HW2 : Aside0 ((wholeS x).2 = (wholeN (rk x)).2) := Aside0.mk hww.1
      have hW := whole_any (wd false (rk x)) (wd_lt (rk_lt x)) (by unfold nanB; rw [wd_rk (rk_lt x)]; exact hn) (by rw [sv_wd (rk_lt x)]; unfold sg; simp)
      rw [wd_rk (rk_lt x)] at hW
      have HWA := Aside0.mk hW
      have hq : -9223372036854775808 < (wholeN (rk x)).1 ∧ (wholeN (rk x)).1 < 9223372036854775808 := by
        unfold wholeN
        split
        · rename_i d
          have := qT_lt d.1
          constructor <;> simp <;> omega
        · decide
      generalize (wholeN (rk x)).1 = n1 at *
      generalize (wholeN (rk x)).2 = n2 at *
      have hwr : wrap64 (-n1) = -n1 := by unfold wrap64; omega
      clear hW hww c hsv
      go_enter Tryz.func18, Tryz.ntmps18
      go_wp2_with (first | (go_at_call 44; refine (HN.out _).mono ?_; rintro e w' ⟨rfl, rfl⟩) | simp only [hng.out, Bool.not_true] | (go_at_call 47; refine (HWA.out _).mono ?_; rintro e w' ⟨rfl, rfl⟩))
      go_ret2
      exact ⟨by rw [HW1.out, HW2.out]; rfl, rfl⟩
    · rw [decide_eq_false c] at hl
      have hww : wholeN (rk x) = wholeS x := by
        unfold wholeN wholeS
        by_cases d : rk x < bigR ∧ whB (rk x) = true
        · rw [if_pos d, if_pos ⟨hn, d.1, d.2⟩]
          rcases hsv with ⟨a, b⟩ | ⟨a, b⟩
          · have h0 : rk x = 0 := by omega
            rw [a, h0]
            decide +kernel
          · rw [a]; rfl
        · rw [if_neg d, if_neg (fun h => d ⟨h.2.1, h.2.2⟩)]
      have hW := whole_any x hx hn (by omega)
      rw [hww] at hW
      have HWA := Aside0.mk hW
      clear hW hww c hsv
      go_enter Tryz.func18, Tryz.ntmps18
      go_wp2_with (first | (go_at_call 44; refine (HN.out _).mono ?_; rintro e w' ⟨rfl, rfl⟩) | (go_at_call 47; refine (HWA.out _).mono ?_; rintro e w' ⟨rfl, rfl⟩))
      go_ret2
      exact ⟨by rfl, rfl⟩
end Go.Proofs.YtghnlhadohnenaaGreatDoor
