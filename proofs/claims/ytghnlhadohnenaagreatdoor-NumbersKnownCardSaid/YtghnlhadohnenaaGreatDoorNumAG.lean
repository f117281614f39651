/- Numbers: the law Whole: plain lemmas and the walk. Numbers: the law Whole: the walk. -/
import Derived.Test.YtghnlhadohnenaaGreatDoorNumAD
import Derived.Outline
namespace Go.Proofs.YtghnlhadohnenaaGreatDoor
open Go.Shelf Go.RowKit Go.Proofs.YtghnlhadohnenaaGreatDoorW.PrintWords Go.Proofs.YtghnlhadohnenaaGreatDoorW.PrintLast Go.Proofs.YtghnlhadohnenaaGreatDoorW.PrintMore
set_option linter.unusedVariables false
set_option linter.unusedSimpArgs false
set_option exponentiation.threshold 3000
theorem mg_half : mg 4841369599423283200 = 4503599627370496 * 2 ^ 1074 := by decide +kernel
theorem wh_half {r : Nat} (h : 4841369599423283200 ≤ r) : whB r = true := by
  have h1 : 1074 ≤ dp r := by unfold dp; omega
  unfold whB mg
  rw [beq_iff_eq, show dp r = (dp r - 1074) + 1074 by omega, Nat.pow_add, ← Nat.mul_assoc, Nat.mul_mod_left]
theorem half_lt {r : Nat} (h : whB r = false) : qT r < 4503599627370496 := by
  rcases Nat.lt_or_ge r 4841369599423283200 with c | c
  · have := mg_mono c
    rw [mg_half] at this
    unfold qT
    exact (Nat.div_lt_iff_lt_mul (Nat.two_pow_pos _)).2 this
  · rw [wh_half c] at h; cases h
theorem rn_lt_big {n : Nat} (h : n < 9007199254740992) : rn n < bigR := by
  obtain ⟨_, h2, _⟩ := rn_facts (n := n) (by omega)
  rw [lt_big, h2]
  exact Nat.mul_lt_mul_of_pos_right h (Nat.two_pow_pos _)
theorem rn_lt63 {n : Nat} (h : n ≤ 9007199254740992) : rn n < 9223372036854775808 := by
  obtain ⟨h1, _⟩ := rn_facts h
  unfold topR at h1
  omega
theorem whB_rn {n : Nat} (h : n ≤ 9007199254740992) : whB (rn n) = true ∧ qT (rn n) = n := by
  obtain ⟨_, h2, _⟩ := rn_facts h
  unfold whB qT
  rw [h2]
  exact ⟨by rw [beq_iff_eq, Nat.mul_mod_left], Nat.mul_div_cancel _ (Nat.two_pow_pos _)⟩
theorem whole_of (s : Bool) {n : Nat} (h : n < 9007199254740992) : (wholeS (wd s (rn n))).2 = true := by
  have h1 := rn_lt_big h
  have h2 := rn_lt63 (n := n) (by omega)
  have h3 := bigR_lt
  have hn : nanB (wd s (rn n)) = false := nan_wd (by omega)
  unfold wholeS
  rw [if_pos ⟨hn, by rw [wd_rk h2]; exact h1, by rw [wd_rk h2]; exact (whB_rn (by omega)).1⟩]
theorem fl_shape (s : Bool) {a : Nat} (hr : a < bigR) : ∃ n, n < 9007199254740992 ∧ flR s a = rn n ∧ (a = rn n ∨ (s = false ∧ rn n < a ∧ a < rn (n + 1)) ∨ (s = true ∧ 1 ≤ n ∧ rn (n - 1) < a ∧ a < rn n)) := by
  have hq := qT_lt hr
  cases hw : whB a with
  | true =>
    refine ⟨qT a, hq, ?_, .inl (rn_qT hr hw).symm⟩
    unfold flR
    rw [if_pos hr, hw]
    cases s <;> rfl
  | false =>
    have hh := half_lt hw
    have hlt : rn (qT a) < a := by
      rcases Nat.lt_or_eq_of_le (rn_le hr) with c | c
      · exact c
      · rw [(rn_qT_iff hr).1 c] at hw; cases hw
    cases s with
    | false =>
      refine ⟨qT a, hq, ?_, .inr (.inl ⟨rfl, hlt, rn_gt hr⟩)⟩
      unfold flR
      rw [if_pos hr, hw]
      rfl
    | true =>
      refine ⟨qT a + 1, by omega, ?_, .inr (.inr ⟨rfl, by omega, by rw [Nat.add_sub_cancel]; exact hlt, rn_gt hr⟩)⟩
      unfold flR
      rw [if_pos hr, hw]
      rfl
theorem one_rnF : rn 1 = 4607182418800017408 := one_rn
theorem add_one (s : Bool) {n : Nat} (hn : n < 9007199254740992) : ∃ s' m, floatBits .add .f64 (wd s (rn n)) 4607182418800017408 = some (wd s' (rn m)) ∧ m ≤ 9007199254740992 ∧ ((s = false ∧ s' = false ∧ m = n + 1) ∨ (s = true ∧ n = 0 ∧ s' = false ∧ m = 1) ∨ (s = true ∧ 1 ≤ n ∧ m = n - 1 ∧ (s' = true ∨ m = 0))) := by
  obtain ⟨h1, h2, _⟩ := rn_facts (n := n) (by omega)
  have ho : (4607182418800017408 : Nat) < topR := by decide
  have hpos : ∀ m, 0 < m → m ≤ 9007199254740992 → 0 < rn m := fun m h hm => by
    have := (rn_mono (a := 0) (b := m) (by omega) hm).2 h
    rw [rn_zero] at this
    exact this
  cases s with
  | false =>
    obtain ⟨k1, k2, _⟩ := rn_facts (n := n + 1) (by omega)
    refine ⟨false, n + 1, add_exact false false false (rn n) 4607182418800017408 (rn (n + 1)) h1 ho k1 (hpos _ (by omega) (by omega)) ?_, by omega, .inl ⟨rfl, rfl, rfl⟩⟩
    rw [h2, k2, mg_one]
    simp only [sg]
    rw [Nat.add_mul, Nat.one_mul]
    simp
  | true =>
    rcases Nat.eq_zero_or_pos n with h | h
    · subst h
      obtain ⟨k1, k2, _⟩ := rn_facts (n := 1) (by omega)
      refine ⟨false, 1, add_exact true false false (rn 0) 4607182418800017408 (rn 1) h1 ho k1 (hpos _ (by omega) (by omega)) ?_, by omega, .inr (.inl ⟨rfl, rfl, rfl, rfl⟩)⟩
      rw [h2, k2, mg_one]
      simp [sg]
    · rcases Nat.lt_or_ge 1 n with h3 | h3
      · obtain ⟨k1, k2, _⟩ := rn_facts (n := n - 1) (by omega)
        refine ⟨true, n - 1, add_exact true false true (rn n) 4607182418800017408 (rn (n - 1)) h1 ho k1 (hpos _ (by omega) (by omega)) ?_, by omega, .inr (.inr ⟨rfl, h, rfl, .inl rfl⟩)⟩
        rw [h2, k2, mg_one]
        obtain ⟨m, rfl⟩ : ∃ m, n = m + 1 := ⟨n - 1, by omega⟩
        rw [Nat.add_sub_cancel, Nat.add_mul, Nat.one_mul]
        simp only [sg, if_true, Bool.false_eq_true, if_false]
        omega
      · have : n = 1 := by omega
        subst this
        refine ⟨false, 0, ?_, by omega, .inr (.inr ⟨rfl, Nat.le_refl 1, rfl, .inr rfl⟩)⟩
        rw [one_rn, rn_zero]
        decide +kernel
theorem sv_rn (s : Bool) {n : Nat} (h : n ≤ 9007199254740992) : sv (wd s (rn n)) = sg s (rn n) := sv_wd (rn_lt63 h)
/-- What the law asks of a number less than 2^53 and of its floor. -/
theorem floor_facts {x : Nat} (hr : rk x < bigR) {y : Nat} (hy : y = wd (sb x) (flR (sb x) (rk x))) :
    y < 18446744073709551616 ∧ nanB y = false ∧ (wholeS y).2 = true ∧ sv y ≤ sv x ∧ ∃ r, floatBits .add .f64 y 4607182418800017408 = some r ∧ r < 18446744073709551616 ∧ nanB r = false ∧ sv x < sv r := by
  obtain ⟨n, hn, e, hc⟩ := fl_shape (sb x) hr
  rw [e] at hy
  subst hy
  have h63 := rn_lt63 (n := n) (by omega)
  obtain ⟨hnt, _⟩ := rn_facts (n := n) (by omega)
  obtain ⟨s', m, ha, hm, hd⟩ := add_one (sb x) hn
  have hm63 := rn_lt63 hm
  obtain ⟨hmt, _⟩ := rn_facts hm
  have m1 : n < m → rn n < rn m := (rn_mono (by omega) hm).2
  have m2 : m < n → rn m < rn n := (rn_mono hm (by omega)).2
  refine ⟨wd_lt h63, nan_wd (Nat.le_of_lt hnt), whole_of _ hn, ?_, _, ha, wd_lt hm63, nan_wd (Nat.le_of_lt hmt), ?_⟩
  · rw [sv_rn _ (by omega)]
    unfold sv
    rcases hc with h | ⟨hs, h1, h2⟩ | ⟨hs, h0, h1, h2⟩
    · rw [h]; exact Int.le_refl _
    · rw [hs]; simp only [sg, Bool.false_eq_true, if_false]; omega
    · rw [hs]; simp only [sg, if_true]; omega
  · rw [sv_rn _ hm]
    unfold sv
    rcases hd with ⟨h1, h2, h3⟩ | ⟨h1, h2, h3, h4⟩ | ⟨h1, h2, h3, h4⟩
    · rw [h1, h2]
      simp only [sg, Bool.false_eq_true, if_false]
      rcases hc with h | ⟨_, _, h⟩ | ⟨hs, _⟩
      · have := m1 (by omega); omega
      · rw [h3]; omega
      · rw [h1] at hs; cases hs
    · rw [h1, h3]
      simp only [sg, Bool.false_eq_true, if_false, if_true]
      have := m1 (by omega)
      omega
    · have hx : rn m < rk x := by
        rcases hc with h | ⟨hs, _⟩ | ⟨_, _, h, _⟩
        · rw [h]; exact m2 (by omega)
        · rw [h1] at hs; cases hs
        · rw [h3]; exact h
      have hsm : sg s' (rn m) = -(rn m : Int) := by
        rcases h4 with h4 | h4
        · rw [h4]; rfl
        · rw [h4, rn_zero]; cases s' <;> rfl
      rw [hsm, h1]
      simp only [sg, if_true]
      omega
theorem float_back {x : Nat} (hx : x < 18446744073709551616) (h : (wholeS x).2 = true) : floatOfInt .f64 (wholeS x).1 < 18446744073709551616 ∧ nanB (floatOfInt .f64 (wholeS x).1) = false ∧ nanB x = false ∧ sv (floatOfInt .f64 (wholeS x).1) = sv x := by
  unfold wholeS at h ⊢
  split at h
  · rename_i hc
    obtain ⟨h1, h2, h3⟩ := hc
    rw [if_pos ⟨h1, h2, h3⟩]
    have hq := qT_lt h2
    obtain ⟨k1, _, k3⟩ := rn_facts (n := qT (rk x)) (by omega)
    have k4 := rn_lt63 (n := qT (rk x)) (by omega)
    have e := k3 (sg (sb x) (qT (rk x))) (sg_natAbs _ _)
    simp only
    rw [e]
    refine ⟨wd_lt k4, nan_wd (Nat.le_of_lt k1), h1, ?_⟩
    rw [sv_wd k4, rn_qT h2 h3]
    unfold sv
    cases hs : sb x with
    | false => rw [show decide (sg false (qT (rk x)) < 0) = false from decide_eq_false (by simp only [sg, Bool.false_eq_true, if_false]; omega)]
    | true =>
      rcases Nat.eq_zero_or_pos (qT (rk x)) with h0 | h0
      · have : rk x = 0 := by rw [← rn_qT h2 h3, h0, rn_zero]
        rw [this]
        simp [sg]
      · rw [show decide (sg true (qT (rk x)) < 0) = true from decide_eq_true (by simp only [sg, if_true]; omega)]
  · simp at h
theorem key_floor {x y z : Nat} (h : floorP x y) (k : floorP x z) : cmpK y z = 0 := by
  refine cmpK_zero.2 (key_same ?_)
  rcases h.2 with ⟨h1, h2⟩ | ⟨h1, h2⟩ <;> rcases k.2 with ⟨k1, k2⟩ | ⟨k1, k2⟩
  · exact .inr ⟨h2, k2⟩
  · rw [h1] at k1; cases k1
  · rw [h1] at k1; cases k1
  · exact .inl (h2.trans k2.symm)
end Go.Proofs.YtghnlhadohnenaaGreatDoor
namespace Go.Proofs.YtghnlhadohnenaaGreatDoor
set_option exponentiation.threshold 3000
open Go.Shelf Go.RowKit Go.Proofs.YtghnlhadohnenaaGreatDoorW.PrintWords Go.Proofs.YtghnlhadohnenaaGreatDoorW.PrintLast Go.Proofs.YtghnlhadohnenaaGreatDoorW.PrintMore
set_option linter.unusedVariables false
set_option linter.unusedSimpArgs false
theorem at_whole {w : World} {x : Nat} (hx : x < 18446744073709551616) : At w 17 #[.float .f64 x] (.tuple #[.int .i64 (wholeS x).1, .bool (wholeS x).2]) := at_quiet fun W => Whole_any x hx W
theorem at_refWhole {w : World} {x : Nat} (hx : x < 18446744073709551616) : At w 18 #[.float .f64 x] (.tuple #[.int .i64 (wholeS x).1, .bool (wholeS x).2]) := at_quiet fun W => refWhole_any x hx W
theorem atq_down {w : World} {x : Nat} (hx : x < 18446744073709551616) : AtQ w 19 #[.float .f64 x] (fun e => ∃ r, e = .returned (.float .f64 r) ∧ floorP x r) := fun W hb => (Down_any x hx W).mono fun e w' ⟨r, h1, h2, h3⟩ => ⟨⟨r, h1, h2⟩, hb.trans (h3.mono hb.size)⟩
theorem atq_refDown {w : World} {x : Nat} (hx : x < 18446744073709551616) : AtQ w 21 #[.float .f64 x] (fun e => ∃ r, e = .returned (.float .f64 r) ∧ floorP x r) := fun W hb => (refDown_any x hx W).mono fun e w' ⟨r, h1, h2, h3⟩ => ⟨⟨r, h1, h2⟩, hb.trans (h3.mono hb.size)⟩
/-- Is the float of the whole number the number? -/
theorem back_eq {x : Nat} (hx : x < 18446744073709551616) (h : (wholeS x).2 = true) : (FloatKind.f64.format.order (floatOfInt .f64 (wholeS x).1) x != some .eq) = false := by
  obtain ⟨h1, h2, h3, h4⟩ := float_back hx h
  have := eqF_iff h1 hx h2 h3
  unfold eqF at this
  rw [decide_eq_true h4] at this
  unfold bne
  rw [this]
  rfl
def inR (x : Nat) : Bool := !nanB x && decide (rk x < bigR)
theorem range_gt {x : Nat} (hx : x < 18446744073709551616) (h : inR x = true) : (FloatKind.f64.format.order x 14069245235905429504 == some .gt) = true ∧ (FloatKind.f64.format.order x 4845873199050653696 == some .lt) = true := by
  unfold inR at h
  simp only [Bool.and_eq_true, Bool.not_eq_true', decide_eq_true_eq] at h
  have h1 := gtF_iff hx (y := 14069245235905429504) (by omega) h.1 (by decide)
  have h2 := ltF_iff hx (y := 4845873199050653696) (by omega) h.1 (by decide)
  unfold gtF at h1
  unfold ltF at h2
  rw [h1, h2, show sv 14069245235905429504 = -4845873199050653696 by decide, show sv 4845873199050653696 = 4845873199050653696 by decide]
  have h3 : rk x < 4845873199050653696 := h.2
  refine ⟨decide_eq_true ?_, decide_eq_true ?_⟩ <;> rcases sv_cases x with ⟨_, e⟩ | ⟨_, e⟩ <;> rw [e] <;> omega
theorem range_out {x : Nat} (hx : x < 18446744073709551616) (h : inR x = false) : ((FloatKind.f64.format.order x 14069245235905429504 == some .gt) = false) ∨ ((FloatKind.f64.format.order x 14069245235905429504 == some .gt) = true ∧ (FloatKind.f64.format.order x 4845873199050653696 == some .lt) = false) := by
  cases hn : nanB x with
  | true => exact .inl (gtF_nan hx (by omega) (.inl hn))
  | false =>
    unfold inR at h
    rw [hn] at h
    simp only [Bool.not_false, Bool.true_and, decide_eq_false_iff_not] at h
    have h1 := gtF_iff hx (y := 14069245235905429504) (by omega) hn (by decide)
    have h2 := ltF_iff hx (y := 4845873199050653696) (by omega) hn (by decide)
    unfold gtF at h1
    unfold ltF at h2
    rw [h1, h2, show sv 14069245235905429504 = -4845873199050653696 by decide, show sv 4845873199050653696 = 4845873199050653696 by decide]
    have h3 : ¬ rk x < 4845873199050653696 := h
    rcases sv_cases x with ⟨_, e⟩ | ⟨_, e⟩ <;> rw [e]
    · exact .inl (decide_eq_false (by omega))
    · exact .inr ⟨decide_eq_true (by omega), decide_eq_false (by omega)⟩
set_option maxHeartbeats 1000000 in
set_option maxRecDepth 100000 in
theorem whole_in (x : Nat) (hx : x < 18446744073709551616) (hin : inR x = true) (w : World) (hT : NTabs w) : Calls Tryz.prog 6 #[.float .f64 x] w (LawE w) := by
  have hg := range_gt hx hin
  have hin2 := hin
  unfold inR at hin2
  simp only [Bool.and_eq_true, Bool.not_eq_true', decide_eq_true_eq] at hin2
  obtain ⟨y, hy⟩ : ∃ y, y = wd (sb x) (flR (sb x) (rk x)) := ⟨_, rfl⟩
  obtain ⟨hy1, hy2, hy3, hy4, r, hr1, hr2, hr3, hr4⟩ := floor_facts hin2.2 hy
  have hfl : ∀ z, floorP x z → z = y := fun z h => by
    rcases h.2 with ⟨h1, _⟩ | ⟨_, h2⟩
    · rw [hin2.1] at h1; cases h1
    · rw [hy]; exact h2
  have HW := Aside0.mk (at_works hT)
  have HB := Aside0.mk (Below.refl w.heap.size w)
  have HWH := Aside0.mk (at_whole (w := w) hx)
  have HRW := Aside0.mk (at_refWhole (w := w) hx)
  have HD : Aside0 (At w 19 #[.float .f64 x] (.float .f64 y)) := Aside0.mk (fun W hb => (atq_down (w := w) hx W hb).mono fun e w' ⟨⟨z, h1, h2⟩, h3⟩ => ⟨by rw [h1, hfl z h2], h3⟩)
  have HRD : Aside0 (At w 21 #[.float .f64 x] (.float .f64 y)) := Aside0.mk (fun W hb => (atq_refDown (w := w) hx W hb).mono fun e w' ⟨⟨z, h1, h2⟩, h3⟩ => ⟨by rw [h1, hfl z h2], h3⟩)
  have HS := Aside0.mk (at_same (w := w) hy1 hy1 (decide_eq_true (cmpK_self y)))
  have HWY := Aside0.mk (at_whole (w := w) hy1)
  rw [hy3] at HWY
  have hop : ∀ t w, (binOp .add t (.float .f64 y) (.float .f64 4607182418800017408)).run Tryz.prog w = .ok (.float .f64 r) w := fun t w => run_float_arith w .add t .f64 _ _ _ hr1
  have g3 := gtF_iff hr2 hx hr3 hin2.1
  unfold gtF at g3
  rw [decide_eq_true hr4] at g3
  have g4 := ltF_iff hy1 hx hy2 hin2.1
  have g5 := eqF_iff hy1 hx hy2 hin2.1
  unfold ltF at g4
  unfold eqF at g5
  have g6 : (FloatKind.f64.format.order y x == some .gt) = false := by
    have := gtF_iff hy1 hx hy2 hin2.1
    unfold gtF at this
    rw [this, decide_eq_false (by omega)]
  obtain ⟨g1, g2⟩ := hg
  have hback := fun h => back_eq hx h
  generalize hfa : floatOfInt .f64 (wholeS x).1 = fa at *
  generalize (wholeS x).1 = a at *
  generalize (wholeS x).2 = ok at *
  generalize (wholeS y).1 = ay at *
  simp only [At, AtQ] at HW HWH HRW HD HRD HS HWY
  clear hT hin hin2 hy hfl hr1 hr3 hr4 hy3
  have hle : sv y < sv x ∨ sv y = sv x := by omega
  cases ok with
  | false =>
    clear hback hfa
    rcases hle with hle | hle
    · rw [decide_eq_true hle] at g4
      rw [decide_eq_false (by omega)] at g5
      clear hle hy4 hy2
      go_enter Tryz.func6, Tryz.ntmps6
      go_wp2_with (first | (go_at_call 17; (with_reducible (first | refine (HWH.out _ HB.out).mono ?_ | refine (HWY.out _ HB.out).mono ?_)); rintro e w1 ⟨rfl, hb⟩; have HB := Aside0.mk hb; clear hb) | (go_at_call 18; (with_reducible refine (HRW.out _ HB.out).mono ?_); rintro e w1 ⟨rfl, hb⟩; have HB := Aside0.mk hb; clear hb) | (go_at_call 19; (with_reducible refine (HD.out _ HB.out).mono ?_); rintro e w1 ⟨rfl, hb⟩; have HB := Aside0.mk hb; clear hb) | (go_at_call 21; (with_reducible refine (HRD.out _ HB.out).mono ?_); rintro e w1 ⟨rfl, hb⟩; have HB := Aside0.mk hb; clear hb) | (go_at_call 20; (with_reducible refine (HS.out _ HB.out).mono ?_); rintro e w1 ⟨rfl, hb⟩; have HB := Aside0.mk hb; clear hb) | simp only [hop] | (go_at_call 12; (with_reducible refine (HW.out _ HB.out).mono ?_); rintro e w1 ⟨rfl, hb⟩; have HB := Aside0.mk hb; clear hb))
      go_ret
      exact ⟨rfl, HB.out⟩
    · rw [decide_eq_false (by omega)] at g4
      rw [decide_eq_true hle] at g5
      clear hle hy4 hy2
      go_enter Tryz.func6, Tryz.ntmps6
      go_wp2_with (first | (go_at_call 17; (with_reducible (first | refine (HWH.out _ HB.out).mono ?_ | refine (HWY.out _ HB.out).mono ?_)); rintro e w1 ⟨rfl, hb⟩; have HB := Aside0.mk hb; clear hb) | (go_at_call 18; (with_reducible refine (HRW.out _ HB.out).mono ?_); rintro e w1 ⟨rfl, hb⟩; have HB := Aside0.mk hb; clear hb) | (go_at_call 19; (with_reducible refine (HD.out _ HB.out).mono ?_); rintro e w1 ⟨rfl, hb⟩; have HB := Aside0.mk hb; clear hb) | (go_at_call 21; (with_reducible refine (HRD.out _ HB.out).mono ?_); rintro e w1 ⟨rfl, hb⟩; have HB := Aside0.mk hb; clear hb) | (go_at_call 20; (with_reducible refine (HS.out _ HB.out).mono ?_); rintro e w1 ⟨rfl, hb⟩; have HB := Aside0.mk hb; clear hb) | simp only [hop] | (go_at_call 12; (with_reducible refine (HW.out _ HB.out).mono ?_); rintro e w1 ⟨rfl, hb⟩; have HB := Aside0.mk hb; clear hb))
      go_ret
      exact ⟨rfl, HB.out⟩
  | true =>
    have hbk := hback rfl
    clear hback
    rcases hle with hle | hle
    · rw [decide_eq_true hle] at g4
      rw [decide_eq_false (by omega)] at g5
      clear hle hy4 hy2
      go_enter Tryz.func6, Tryz.ntmps6
      go_wp2_with (first | (go_at_call 17; (with_reducible (first | refine (HWH.out _ HB.out).mono ?_ | refine (HWY.out _ HB.out).mono ?_)); rintro e w1 ⟨rfl, hb⟩; have HB := Aside0.mk hb; clear hb) | (go_at_call 18; (with_reducible refine (HRW.out _ HB.out).mono ?_); rintro e w1 ⟨rfl, hb⟩; have HB := Aside0.mk hb; clear hb) | (go_at_call 19; (with_reducible refine (HD.out _ HB.out).mono ?_); rintro e w1 ⟨rfl, hb⟩; have HB := Aside0.mk hb; clear hb) | (go_at_call 21; (with_reducible refine (HRD.out _ HB.out).mono ?_); rintro e w1 ⟨rfl, hb⟩; have HB := Aside0.mk hb; clear hb) | (go_at_call 20; (with_reducible refine (HS.out _ HB.out).mono ?_); rintro e w1 ⟨rfl, hb⟩; have HB := Aside0.mk hb; clear hb) | simp only [hop] | (go_at_call 12; (with_reducible refine (HW.out _ HB.out).mono ?_); rintro e w1 ⟨rfl, hb⟩; have HB := Aside0.mk hb; clear hb))
      go_ret
      exact ⟨rfl, HB.out⟩
    · rw [decide_eq_false (by omega)] at g4
      rw [decide_eq_true hle] at g5
      clear hle hy4 hy2
      go_enter Tryz.func6, Tryz.ntmps6
      go_wp2_with (first | (go_at_call 17; (with_reducible (first | refine (HWH.out _ HB.out).mono ?_ | refine (HWY.out _ HB.out).mono ?_)); rintro e w1 ⟨rfl, hb⟩; have HB := Aside0.mk hb; clear hb) | (go_at_call 18; (with_reducible refine (HRW.out _ HB.out).mono ?_); rintro e w1 ⟨rfl, hb⟩; have HB := Aside0.mk hb; clear hb) | (go_at_call 19; (with_reducible refine (HD.out _ HB.out).mono ?_); rintro e w1 ⟨rfl, hb⟩; have HB := Aside0.mk hb; clear hb) | (go_at_call 21; (with_reducible refine (HRD.out _ HB.out).mono ?_); rintro e w1 ⟨rfl, hb⟩; have HB := Aside0.mk hb; clear hb) | (go_at_call 20; (with_reducible refine (HS.out _ HB.out).mono ?_); rintro e w1 ⟨rfl, hb⟩; have HB := Aside0.mk hb; clear hb) | simp only [hop] | (go_at_call 12; (with_reducible refine (HW.out _ HB.out).mono ?_); rintro e w1 ⟨rfl, hb⟩; have HB := Aside0.mk hb; clear hb))
      go_ret
      exact ⟨rfl, HB.out⟩
set_option maxHeartbeats 1000000 in
set_option maxRecDepth 100000 in
theorem whole_out (x : Nat) (hx : x < 18446744073709551616) (hin : inR x = false) (w : World) (hT : NTabs w) : Calls Tryz.prog 6 #[.float .f64 x] w (LawE w) := by
  have hg := range_out hx hin
  have HW := Aside0.mk (at_works hT)
  have HB := Aside0.mk (Below.refl w.heap.size w)
  have HWH := Aside0.mk (at_whole (w := w) hx)
  have HRW := Aside0.mk (at_refWhole (w := w) hx)
  have HD := Aside0.mk (atq_down (w := w) hx)
  have HRD := Aside0.mk (atq_refDown (w := w) hx)
  have hback := fun h => back_eq hx h
  generalize hfa : floatOfInt .f64 (wholeS x).1 = fa at *
  generalize (wholeS x).1 = a at *
  generalize (wholeS x).2 = ok at *
  simp only [At, AtQ] at HW HWH HRW HD HRD
  clear hT hin
  cases ok with
  | false =>
    clear hback hfa
    rcases hg with g1 | ⟨g1, g2⟩
    all_goals
      go_enter Tryz.func6, Tryz.ntmps6
      go_wp2_with (first | (go_at_call 17; (with_reducible refine (HWH.out _ HB.out).mono ?_); rintro e w1 ⟨rfl, hb⟩; have HB := Aside0.mk hb; clear hb) | (go_at_call 18; (with_reducible refine (HRW.out _ HB.out).mono ?_); rintro e w1 ⟨rfl, hb⟩; have HB := Aside0.mk hb; clear hb) | (go_at_call 19; (with_reducible refine (HD.out _ HB.out).mono ?_); rintro e w1 ⟨⟨y, rfl, hfy⟩, hb⟩; have HFY := Aside0.mk hfy; clear hfy; have HB := Aside0.mk hb; clear hb) | (go_at_call 21; (with_reducible refine (HRD.out _ HB.out).mono ?_); rintro e w1 ⟨⟨y', rfl, hfy⟩, hb⟩; have HS := Aside0.mk (at_same (w := w) HFY.out.1 hfy.1 (decide_eq_true (key_floor HFY.out hfy))); simp only [At] at HS; clear hfy; have HB := Aside0.mk hb; clear hb) | (go_at_call 20; (with_reducible refine (HS.out _ HB.out).mono ?_); rintro e w1 ⟨rfl, hb⟩; have HB := Aside0.mk hb; clear hb) | (go_at_call 12; (with_reducible refine (HW.out _ HB.out).mono ?_); rintro e w1 ⟨rfl, hb⟩; have HB := Aside0.mk hb; clear hb))
      go_ret
      exact ⟨rfl, HB.out⟩
  | true =>
    have hbk := hback rfl
    clear hback
    rcases hg with g1 | ⟨g1, g2⟩
    all_goals
      go_enter Tryz.func6, Tryz.ntmps6
      go_wp2_with (first | (go_at_call 17; (with_reducible refine (HWH.out _ HB.out).mono ?_); rintro e w1 ⟨rfl, hb⟩; have HB := Aside0.mk hb; clear hb) | (go_at_call 18; (with_reducible refine (HRW.out _ HB.out).mono ?_); rintro e w1 ⟨rfl, hb⟩; have HB := Aside0.mk hb; clear hb) | (go_at_call 19; (with_reducible refine (HD.out _ HB.out).mono ?_); rintro e w1 ⟨⟨y, rfl, hfy⟩, hb⟩; have HFY := Aside0.mk hfy; clear hfy; have HB := Aside0.mk hb; clear hb) | (go_at_call 21; (with_reducible refine (HRD.out _ HB.out).mono ?_); rintro e w1 ⟨⟨y', rfl, hfy⟩, hb⟩; have HS := Aside0.mk (at_same (w := w) HFY.out.1 hfy.1 (decide_eq_true (key_floor HFY.out hfy))); simp only [At] at HS; clear hfy; have HB := Aside0.mk hb; clear hb) | (go_at_call 20; (with_reducible refine (HS.out _ HB.out).mono ?_); rintro e w1 ⟨rfl, hb⟩; have HB := Aside0.mk hb; clear hb) | (go_at_call 12; (with_reducible refine (HW.out _ HB.out).mono ?_); rintro e w1 ⟨rfl, hb⟩; have HB := Aside0.mk hb; clear hb))
      go_ret
      exact ⟨rfl, HB.out⟩
theorem law_Whole (x : Nat) (hx : x < 18446744073709551616) (w : World) (hT : NTabs w) : Calls Tryz.prog 6 #[.float .f64 x] w (LawE w) := by
  cases h : inR x with
  | true => exact whole_in x hx h w hT
  | false => exact whole_out x hx h w hT
end Go.Proofs.YtghnlhadohnenaaGreatDoor
