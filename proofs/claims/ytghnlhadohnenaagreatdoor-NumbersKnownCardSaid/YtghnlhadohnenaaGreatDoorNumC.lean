/- Comparing doubles: the walks. -/
import Derived.Test.YtghnlhadohnenaaGreatDoorNumB
import Derived.Test.YtghnlhadohnenaaGreatDoorShelf
import Derived.Test.YtghnlhadohnenaaGreatDoorVerT
import Derived.Laws.FloatArith
import Derived.Lib.Hide
namespace Go.Proofs.YtghnlhadohnenaaGreatDoor
set_option exponentiation.threshold 3000
open Go.Shelf Go.RowKit Go.Lib Go.Proofs.YtghnlhadohnenaaGreatDoorW.PrintWords Go.Proofs.YtghnlhadohnenaaGreatDoorW.PrintMore
set_option linter.unusedVariables false
set_option linter.unusedSimpArgs false
theorem isNaN_cmp (x : Nat) (hx : x < 18446744073709551616) (w : World) : Calls Tryz.prog 76 #[.float .f64 x] w fun e w' => e = .returned (.bool (nanB x)) ∧ w' = w := by
  have h : (FloatKind.f64.format.order x x != some .eq) = nanB x := by
    have := eqF_self hx
    unfold eqF at this
    rw [bne, this, Bool.not_not]
  go_enter Tryz.func76, Tryz.ntmps76
  go_wp2
  go_ret
  exact ⟨rfl, rfl⟩
theorem ref_NaN (x : Nat) (hx : x < 18446744073709551616) (w : World) : Calls Tryz.prog 44 #[.float .f64 x] w fun e w' => e = .returned (.bool (nanB x)) ∧ w' = w := by
  have h : (FloatKind.f64.format.order x x != some .eq) = nanB x := by
    have := eqF_self hx
    unfold eqF at this
    rw [bne, this, Bool.not_not]
  go_enter Tryz.func44, Tryz.ntmps44
  go_wp2
  go_ret
  exact ⟨rfl, rfl⟩
theorem Float64bits_run (x : Nat) (w : World) : (callFunc 58 #[.float .f64 x]).run Tryz.prog w = .ok (.value (.int .u64 x)) w := by
  rw [run_callFunc_extern Tryz.func58 (by kernel_rfl) (by kernel_rfl) (by kernel_rfl) (e := Extern.MathFloatBits.float64bits) (by kernel_rfl)]
  rfl
theorem Float64frombits_run (x : Nat) (w : World) : (callFunc 66 #[.int .u64 x]).run Tryz.prog w = .ok (.value (.float .f64 x)) w := by
  rw [run_callFunc_extern Tryz.func66 (by kernel_rfl) (by kernel_rfl) (by kernel_rfl) (e := Extern.MathFloatBits.float64frombits) (by kernel_rfl)]
  rfl
theorem sb_wrap {x : Nat} (hx : x < 18446744073709551616) : decide (wrap64 (x : Int) < 0) = sb x := by
  unfold sb wrap64
  by_cases c : 9223372036854775808 ≤ x
  · rw [decide_eq_true c]; simp; omega
  · rw [decide_eq_false c]; simp; omega
theorem Signbit_any (x : Nat) (hx : x < 18446744073709551616) (w : World) : Calls Tryz.prog 31 #[.float .f64 x] w fun e w' => e = .returned (.bool (sb x)) ∧ w' = w := by
  have h := sb_wrap hx
  go_enter Tryz.func31, Tryz.ntmps31
  go_wp2_with (simp only [Float64bits_run])
  go_ret
  exact ⟨by rw [← h]; rfl, rfl⟩
theorem zero_lt64 : (0 : Nat) < 18446744073709551616 := by omega
theorem nan_zero : nanB 0 = false := by decide
theorem sv_zero : sv 0 = 0 := by decide
/-- Where kinds stand. -/
def rankI (x : Nat) : Int := if nanB x then 1 else if sv x = 0 ∧ sb x = true then -1 else 0
theorem rank_any (x : Nat) (hx : x < 18446744073709551616) (w : World) : Calls Tryz.prog 53 #[.float .f64 x] w fun e w' => e = .returned (.int .i64 (rankI x)) ∧ w' = w := by
  have hs := Aside0.mk (Signbit_any x hx)
  have h : (FloatKind.f64.format.order x x != some .eq) = nanB x := by
    have := eqF_self hx
    unfold eqF at this
    rw [bne, this, Bool.not_not]
  cases hn : nanB x with
  | true =>
    rw [hn] at h
    have hr : rankI x = 1 := by unfold rankI; rw [hn]; rfl
    go_enter Tryz.func53, Tryz.ntmps53
    go_wp2
    go_ret
    exact ⟨by rw [hr]; rfl, rfl⟩
  | false =>
    rw [hn] at h
    have h0 := eqF_iff hx zero_lt64 hn nan_zero
    unfold eqF at h0
    rw [sv_zero] at h0
    by_cases hz : sv x = 0
    · rw [decide_eq_true hz] at h0
      cases hb : sb x with
      | true =>
        have hr : rankI x = -1 := by unfold rankI; rw [hn, hb, if_neg (by decide), if_pos ⟨hz, rfl⟩]
        go_enter Tryz.func53, Tryz.ntmps53
        go_wp2_with (go_at_call 31; refine (hs.out _).mono ?_; rintro e w' ⟨rfl, rfl⟩)
        go_ret
        exact ⟨by rw [hr]; rfl, rfl⟩
      | false =>
        have hr : rankI x = 0 := by unfold rankI; rw [hn, hb, if_neg (by decide), if_neg (fun h => by cases h.2)]
        go_enter Tryz.func53, Tryz.ntmps53
        go_wp2_with (go_at_call 31; refine (hs.out _).mono ?_; rintro e w' ⟨rfl, rfl⟩)
        go_ret
        exact ⟨by rw [hr]; rfl, rfl⟩
    · rw [decide_eq_false hz] at h0
      have hr : rankI x = 0 := by unfold rankI; rw [hn, if_neg (by decide), if_neg (fun h => hz h.1)]
      go_enter Tryz.func53, Tryz.ntmps53
      go_wp2
      go_ret
      exact ⟨by rw [hr]; rfl, rfl⟩
theorem cmpI_cases (a b : Int) : (a < b ∧ cmpI a b = -1) ∨ (a = b ∧ cmpI a b = 0) ∨ (b < a ∧ cmpI a b = 1) := by
  unfold cmpI
  by_cases c : a < b
  · exact .inl ⟨c, if_pos c⟩
  · by_cases d : b < a
    · exact .inr (.inr ⟨d, by rw [if_neg c, if_pos d]⟩)
    · exact .inr (.inl ⟨by omega, by rw [if_neg c, if_neg d]⟩)
/-- cmp.Compare of two numbers. -/
theorem cmp_Compare_f (x y : Nat) (hx : x < 18446744073709551616) (hy : y < 18446744073709551616) (h1 : nanB x = false) (h2 : nanB y = false) (w : World) :
    Calls Tryz.prog 54 #[.float .f64 x, .float .f64 y] w fun e w' => e = .returned (.int .i64 (cmpI (sv x) (sv y))) ∧ w' = w := by
  have hs := Aside0.mk isNaN_cmp
  have hl := ltF_iff hx hy h1 h2
  have hg := gtF_iff hx hy h1 h2
  unfold ltF at hl
  unfold gtF at hg
  rcases cmpI_cases (sv x) (sv y) with ⟨c, e⟩ | ⟨c, e⟩ | ⟨c, e⟩
  all_goals
    have hl' := hl
    have hg' := hg
    clear hl hg
    simp only [c, Int.lt_irrefl, decide_true, decide_false] at hl' hg'
  · go_enter Tryz.func54, Tryz.ntmps54
    go_wp2_with (go_at_call 76; refine (hs.out _ (by assumption) _).mono ?_; rintro e w' ⟨rfl, rfl⟩)
    go_ret
    exact ⟨by rw [e]; rfl, rfl⟩
  · go_enter Tryz.func54, Tryz.ntmps54
    go_wp2_with (go_at_call 76; refine (hs.out _ (by assumption) _).mono ?_; rintro e w' ⟨rfl, rfl⟩)
    go_ret
    exact ⟨by rw [e]; rfl, rfl⟩
  · rw [decide_eq_false (by omega)] at hl'
    go_enter Tryz.func54, Tryz.ntmps54
    go_wp2_with (go_at_call 76; refine (hs.out _ (by assumption) _).mono ?_; rintro e w' ⟨rfl, rfl⟩)
    go_ret
    exact ⟨by rw [e]; rfl, rfl⟩
theorem key_num {x : Nat} (h : nanB x = false) : key x = if sb x then -(rk x : Int) - 1 else rk x := by unfold key; rw [h]; rfl
theorem key_nan {x : Nat} (h : nanB x = true) : key x = 9223372036854775808 := by unfold key; rw [h]; rfl
theorem key_lt {x : Nat} (h : nanB x = false) : key x < 9223372036854775808 := by
  rw [key_num h]
  have := rk_lt x
  split <;> omega
theorem sv_cases (x : Nat) : (sb x = true ∧ sv x = -(rk x : Int)) ∨ (sb x = false ∧ sv x = rk x) := by
  unfold sv sg
  cases h : sb x
  · exact .inr ⟨rfl, rfl⟩
  · exact .inl ⟨rfl, rfl⟩
theorem rank_cmp {a b : Nat} (h : nanB a = true ∨ nanB b = true ∨ sv a = sv b) : Lib.compareInt (rankI a) (rankI b) = cmpK a b := by
  unfold cmpK
  cases ha : nanB a with
  | true =>
    have r1 : rankI a = 1 := by unfold rankI; rw [ha]; rfl
    rw [r1, key_nan ha]
    cases hb : nanB b with
    | true =>
      have r2 : rankI b = 1 := by unfold rankI; rw [hb]; rfl
      rw [r2, key_nan hb]
      decide
    | false =>
      have hk := key_lt hb
      have r2 : rankI b = 0 ∨ rankI b = -1 := by unfold rankI; rw [hb]; simp only [Bool.false_eq_true, if_false]; split <;> simp
      unfold cmpI
      rw [if_neg (by omega), if_pos hk]
      rcases r2 with r2 | r2 <;> rw [r2] <;> decide
  | false =>
    cases hb : nanB b with
    | true =>
      have hk := key_lt ha
      have r2 : rankI b = 1 := by unfold rankI; rw [hb]; rfl
      have r1 : rankI a = 0 ∨ rankI a = -1 := by unfold rankI; rw [ha]; simp only [Bool.false_eq_true, if_false]; split <;> simp
      rw [key_nan hb, r2]
      unfold cmpI
      rw [if_pos hk]
      rcases r1 with r1 | r1 <;> rw [r1] <;> decide
    | false =>
      rw [ha, hb] at h
      have hs : sv a = sv b := by rcases h with h | h | h; cases h; cases h; exact h
      rw [key_num ha, key_num hb]
      have r1 : rankI a = if sv a = 0 ∧ sb a = true then -1 else 0 := by unfold rankI; rw [ha]; rfl
      have r2 : rankI b = if sv b = 0 ∧ sb b = true then -1 else 0 := by unfold rankI; rw [hb]; rfl
      rw [r1, r2]
      unfold cmpI Lib.compareInt
      rcases sv_cases a with ⟨a1, a2⟩ | ⟨a1, a2⟩ <;> rcases sv_cases b with ⟨b1, b2⟩ | ⟨b1, b2⟩ <;> rw [a1, b1] <;> simp only [Bool.false_eq_true, and_false, and_true, if_false, if_true] <;> grind
theorem sv_cmp {a b : Nat} (ha : nanB a = false) (hb : nanB b = false) (h : sv a ≠ sv b) : cmpI (sv a) (sv b) = cmpK a b := by
  unfold cmpK
  rw [key_num ha, key_num hb]
  unfold cmpI
  rcases sv_cases a with ⟨a1, a2⟩ | ⟨a1, a2⟩ <;> rcases sv_cases b with ⟨b1, b2⟩ | ⟨b1, b2⟩ <;> rw [a1, b1] <;> simp only [Bool.false_eq_true, if_false, if_true] <;> grind
theorem neqF_self {x : Nat} (hx : x < 18446744073709551616) : (FloatKind.f64.format.order x x != some .eq) = nanB x := by
  have := eqF_self hx
  unfold eqF at this
  rw [bne, this, Bool.not_not]
theorem Compare_any (a b : Nat) (ha : a < 18446744073709551616) (hb : b < 18446744073709551616) (w : World) :
    Calls Tryz.prog 22 #[.float .f64 a, .float .f64 b] w fun e w' => e = .returned (.int .i64 (cmpK a b)) ∧ w' = w := by
  have HR := Aside0.mk rank_any
  have HI := Aside0.mk Tryz.cmp_Compare_int
  have HC := Aside0.mk (cmp_Compare_f a b ha hb)
  have na := neqF_self ha
  have nb := neqF_self hb
  cases ca : nanB a with
  | true =>
    have HE := Aside0.mk (rank_cmp (a := a) (b := b) (.inl ca))
    rw [ca] at na
    go_enter Tryz.func22, Tryz.ntmps22
    go_wp2_with (first | (go_at_call 53; refine (HR.out _ (by assumption) _).mono ?_; rintro e w' ⟨rfl, rfl⟩) | (go_at_call 52; refine (HI.out _ _ _).mono ?_; rintro e w' ⟨rfl, rfl⟩))
    go_ret
    exact ⟨by rw [← HE.out]; rfl, rfl⟩
  | false =>
    rw [ca] at na
    cases cb : nanB b with
    | true =>
      have HE := Aside0.mk (rank_cmp (a := a) (b := b) (.inr (.inl cb)))
      rw [cb] at nb
      go_enter Tryz.func22, Tryz.ntmps22
      go_wp2_with (first | (go_at_call 53; refine (HR.out _ (by assumption) _).mono ?_; rintro e w' ⟨rfl, rfl⟩) | (go_at_call 52; refine (HI.out _ _ _).mono ?_; rintro e w' ⟨rfl, rfl⟩))
      go_ret
      exact ⟨by rw [← HE.out]; rfl, rfl⟩
    | false =>
      rw [cb] at nb
      have he := eqF_iff ha hb ca cb
      unfold eqF at he
      by_cases hs : sv a = sv b
      · have HE := Aside0.mk (rank_cmp (a := a) (b := b) (.inr (.inr hs)))
        rw [decide_eq_true hs] at he
        clear hs
        go_enter Tryz.func22, Tryz.ntmps22
        go_wp2_with (first | (go_at_call 53; refine (HR.out _ (by assumption) _).mono ?_; rintro e w' ⟨rfl, rfl⟩) | (go_at_call 52; refine (HI.out _ _ _).mono ?_; rintro e w' ⟨rfl, rfl⟩))
        go_ret
        exact ⟨by rw [← HE.out]; rfl, rfl⟩
      · have HE := Aside0.mk (sv_cmp ca cb hs)
        rw [decide_eq_false hs] at he
        clear hs
        go_enter Tryz.func22, Tryz.ntmps22
        go_wp2_with (go_at_call 54; refine (HC.out ca cb _).mono ?_; rintro e w' ⟨rfl, rfl⟩)
        go_ret
        exact ⟨by rw [← HE.out]; rfl, rfl⟩
theorem Same_any (a b : Nat) (ha : a < 18446744073709551616) (hb : b < 18446744073709551616) (w : World) :
    Calls Tryz.prog 20 #[.float .f64 a, .float .f64 b] w fun e w' => e = .returned (.bool (decide (cmpK a b = 0))) ∧ w' = w := by
  have HC := Aside0.mk (Compare_any a b ha hb)
  go_enter Tryz.func20, Tryz.ntmps20
  go_wp2_with (go_at_call 22; refine (HC.out _).mono ?_; rintro e w' ⟨rfl, rfl⟩)
  go_ret
  exact ⟨rfl, rfl⟩
end Go.Proofs.YtghnlhadohnenaaGreatDoor
