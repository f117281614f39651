/- The reference's Down: the walk. -/
import Derived.Test.YtghnlhadohnenaaGreatDoorNumI
namespace Go.Proofs.YtghnlhadohnenaaGreatDoor
open Go.Shelf Go.RowKit Go.Lib Go.Proofs.YtghnlhadohnenaaGreatDoorW.PrintWords Go.Proofs.YtghnlhadohnenaaGreatDoorW.PrintMore
set_option linter.unusedVariables false
set_option linter.unusedSimpArgs false
set_option exponentiation.threshold 3000
theorem one_rn : rn 1 = 4607182418800017408 := by decide +kernel
theorem mg_one : mg 4607182418800017408 = 2 ^ 1074 := by
  have := (rn_facts (n := 1) (by omega)).2.1
  rw [one_rn, Nat.one_mul] at this
  exact this
theorem sub_one (s : Bool) (q : Nat) (hq : q < 9007199254740992) (hs : s = true ∨ q = 0) : floatBits .sub .f64 (wd s (rn q)) 4607182418800017408 = some (wd true (rn (q + 1))) := by
  obtain ⟨h1, h2, _⟩ := rn_facts (n := q) (by omega)
  obtain ⟨k1, k2, _⟩ := rn_facts (n := q + 1) (by omega)
  have ho : (4607182418800017408 : Nat) < topR := by decide
  have e : Ieee.double.sub (wd s (rn q)) 4607182418800017408 = Ieee.double.add (wd s (rn q)) (wd true 4607182418800017408) := by
    unfold Ieee.Format.sub Ieee.Format.add
    rw [read_num true 4607182418800017408 ho]
    have := read_num false 4607182418800017408 ho
    rw [show wd false 4607182418800017408 = 4607182418800017408 from rfl] at this
    rw [this]
    rfl
  show Ieee.double.sub (wd s (rn q)) 4607182418800017408 = _
  rw [e]
  have hpos : 0 < rn (q + 1) := by
    have := (rn_mono (a := 0) (b := q + 1) (by omega) (by omega)).2 (by omega)
    rw [rn_zero] at this
    exact this
  refine add_exact s true true (rn q) 4607182418800017408 (rn (q + 1)) h1 ho k1 hpos ?_
  rw [h2, k2, mg_one]
  rcases hs with rfl | rfl
  · simp only [sg, if_true]
    rw [Nat.add_mul, Nat.one_mul]
    omega
  · rw [Nat.zero_mul, Nat.zero_add, Nat.one_mul]
    cases s <;> simp [sg]
theorem flR_self {s : Bool} {a : Nat} (h : bigR ≤ a ∨ a = 0) : flR s a = a := by
  unfold flR
  rcases h with h | rfl
  · rw [if_neg (by omega)]
  · rw [if_pos (by decide)]
    cases s <;> decide +kernel
set_option maxHeartbeats 1000000 in
set_option maxRecDepth 100000 in
theorem refDown_any (x : Nat) (hx : x < 18446744073709551616) (w : World) : Calls Tryz.prog 21 #[.float .f64 x] w fun e w' => ∃ r, e = .returned (.float .f64 r) ∧ floorP x r ∧ Below w.heap.size w w' := by
  have hNx := ref_NaN x hx
  have hFx := finite_any x hx
  have HB := Aside0.mk big_any
  cases hn : nanB x with
  | true =>
    rw [hn] at hNx
    have HN := Aside0.mk hNx
    clear hNx hFx
    go_enter Tryz.func21, Tryz.ntmps21
    go_wp2_with (go_at_call 44; refine (HN.out _).mono ?_; rintro e w' ⟨rfl, rfl⟩)
    go_ret
    exact ⟨x, rfl, ⟨hx, .inl ⟨hn, hn⟩⟩, Below.refl _ _⟩
  | false =>
    rw [hn] at hNx
    have HN := Aside0.mk hNx
    have hself : ∀ (h : bigR ≤ rk x ∨ rk x = 0), floorP x x := fun h => ⟨hx, .inr ⟨hn, by rw [flR_self h]; exact wd_eq hx⟩⟩
    have hrk : rk x ≤ topR := by unfold nanB at hn; have := of_decide_eq_false hn; omega
    have hbt := bigR_lt
    by_cases c1 : rk x < topR
    · rw [decide_eq_true c1] at hFx
      have HF := Aside0.mk hFx
      have h0 := eqF_iff hx zero_lt64 hn nan_zero
      unfold eqF at h0
      rw [sv_zero] at h0
      have hsv := sv_cases x
      have hg := gtF_iff hx bigR_lt64 hn nan_big
      have he := eqF_iff hx bigR_lt64 hn nan_big
      have hg2 := gtF_iff (wd_lt (s := !sb x) (rk_lt x)) bigR_lt64 (nan_neg.trans hn) nan_big
      have he2 := eqF_iff (wd_lt (s := !sb x) (rk_lt x)) bigR_lt64 (nan_neg.trans hn) nan_big
      unfold gtF at hg hg2
      unfold eqF at he he2
      have hsn : sv (wd (!sb x) (rk x)) = -sv x := by
        rw [sv_wd (rk_lt x)]
        unfold sv sg
        cases sb x <;> simp
      rw [sv_big] at hg he hg2 he2
      rw [hsn] at hg2 he2
      have hng := Aside0.mk (run_neg_float x hx)
      clear hNx hFx
      generalize wd (!sb x) (rk x) = nx at *
      by_cases c0 : sv x = 0
      · rw [decide_eq_true c0] at h0
        have HS := Aside0.mk (hself (.inr (by omega)))
        clear hself hsv hg he hg2 he2 hsn hng
        go_enter Tryz.func21, Tryz.ntmps21
        go_wp2_with (first | (go_at_call 44; refine (HN.out _).mono ?_; rintro e w' ⟨rfl, rfl⟩) | (go_at_call 46; refine (HF.out _).mono ?_; rintro e w' ⟨rfl, hb⟩; have HB1 := Aside0.mk hb; clear hb))
        go_ret
        exact ⟨x, rfl, HS.out, HB1.out⟩
      · rw [decide_eq_false c0] at h0
        by_cases c2 : rk x < bigR
        · have c2' : rk x < 4845873199050653696 := c2
          have c2i : (rk x : Int) < (bigR : Int) := by omega
          rw [decide_eq_false (by omega)] at hg he hg2 he2
          have hti := toInt_whole (sb x) (rk x) c2 .i64 (.inl rfl)
          rw [← wd_eq hx] at hti
          have hc1 : ∀ w, (convert 25 3 (.float .f64 x)).run Tryz.prog w = .ok (.int .i64 (sg (sb x) (qT (rk x)))) w := fun w => run_convert_float_int w 25 3 .f64 .i64 x _ (by rw [Tryz.underlying25]; rfl) Tryz.underlying3 hti
          have hqt := qT_lt c2
          obtain ⟨r1, r2, r3⟩ := rn_facts (n := qT (rk x)) (by omega)
          have hrl : rn (qT (rk x)) < 9223372036854775808 := by unfold topR at r1; omega
          have hle := rn_le c2
          have hiff := rn_qT_iff c2
          have hpos : 0 < rk x := by omega
          have hqz : qT (rk x) = 0 → whB (rk x) = false := fun h => by
            cases hw : whB (rk x) with
            | false => rfl
            | true =>
              have e1 := qT_wh hw
              have e2 := mg_pos hpos
              rw [h] at e1
              omega
          cases hs : sb x with
          | false =>
            rw [hs] at hc1 hsv
            simp at hsv
            have hfl : floatOfInt .f64 (sg false (qT (rk x))) = wd false (rn (qT (rk x))) := by rw [r3 _ (sg_natAbs _ _)]; congr 1 <;> simp [sg]
            have hgt := gtF_iff (wd_lt (s := false) hrl) hx (nan_wd (by omega)) hn
            unfold gtF at hgt
            rw [sv_wd hrl, decide_eq_false (by simp [sg]; omega)] at hgt
            have HS : Aside0 (floorP x (wd false (rn (qT (rk x))))) := Aside0.mk ⟨wd_lt hrl, .inr ⟨hn, by rw [hs]; unfold flR; rw [if_pos c2]; rfl⟩⟩
            clear hself hsv hsn hti r1 r2 r3 hle hiff hqz c2 c2' c2i c0 c1
            generalize sg false (qT (rk x)) = nn at *
            generalize wd false (rn (qT (rk x))) = yy at *
            go_enter Tryz.func21, Tryz.ntmps21
            go_wp2_with (first | (go_at_call 44; refine (HN.out _).mono ?_; rintro e w' ⟨rfl, rfl⟩) | (go_at_call 46; refine (HF.out _).mono ?_; rintro e w' ⟨rfl, hb⟩; have HB1 := Aside0.mk hb; clear hb) | (go_at_call 51; refine (HB.out _).mono ?_; rintro e w' ⟨rfl, rfl⟩) | simp only [hng.out] | simp only [hc1])
            go_ret
            exact ⟨_, rfl, HS.out, HB1.out⟩
          | true =>
            rw [hs] at hc1 hsv
            simp at hsv
            have hfl : floatOfInt .f64 (sg true (qT (rk x))) = wd (decide (0 < qT (rk x))) (rn (qT (rk x))) := by rw [r3 _ (sg_natAbs _ _)]; congr 1 <;> simp [sg]
            have hgt := gtF_iff (x := wd (decide (0 < qT (rk x))) (rn (qT (rk x)))) (y := x) (wd_lt hrl) hx (nan_wd (by omega)) hn
            unfold gtF at hgt
            have hsy : sv (wd (decide (0 < qT (rk x))) (rn (qT (rk x)))) = -(rn (qT (rk x)) : Int) := by
              rw [sv_wd hrl]
              by_cases z : 0 < qT (rk x)
              · rw [decide_eq_true z]; rfl
              · have z0 : qT (rk x) = 0 := by omega
                rw [z0, rn_zero]; decide
            rw [hsy] at hgt
            cases hw : whB (rk x) with
            | true =>
              have e1 := hiff.2 hw
              rw [decide_eq_false (p := sv x < -(rn (qT (rk x)) : Int)) (by omega)] at hgt
              have z : 0 < qT (rk x) := by
                rcases Nat.eq_zero_or_pos (qT (rk x)) with h | h
                · rw [hqz h] at hw; cases hw
                · exact h
              have HS : Aside0 (floorP x (wd (decide (0 < qT (rk x))) (rn (qT (rk x))))) := Aside0.mk ⟨wd_lt hrl, .inr ⟨hn, by rw [hs, decide_eq_true z]; unfold flR; rw [if_pos c2, hw]; rfl⟩⟩
              clear hself hsv hsn hti r1 r2 r3 hle hiff hqz c2 c2' c2i c0 c1 e1 z
              generalize sg true (qT (rk x)) = nn at *
              generalize wd (decide (0 < qT (rk x))) (rn (qT (rk x))) = yy at *
              go_enter Tryz.func21, Tryz.ntmps21
              go_wp2_with (first | (go_at_call 44; refine (HN.out _).mono ?_; rintro e w' ⟨rfl, rfl⟩) | (go_at_call 46; refine (HF.out _).mono ?_; rintro e w' ⟨rfl, hb⟩; have HB1 := Aside0.mk hb; clear hb) | (go_at_call 51; refine (HB.out _).mono ?_; rintro e w' ⟨rfl, rfl⟩) | simp only [hng.out] | simp only [hc1])
              go_ret
              exact ⟨_, rfl, HS.out, HB1.out⟩
            | false =>
              have e1 : rn (qT (rk x)) ≠ rk x := fun h => by rw [hiff.1 h] at hw; cases hw
              rw [decide_eq_true (p := sv x < -(rn (qT (rk x)) : Int)) (by omega)] at hgt
              have hsub := sub_one (decide (0 < qT (rk x))) (qT (rk x)) hqt (by
                by_cases z : 0 < qT (rk x)
                · exact .inl (decide_eq_true z)
                · exact .inr (by omega))
              have hop : ∀ t w, (binOp .sub t (.float .f64 (wd (decide (0 < qT (rk x))) (rn (qT (rk x))))) (.float .f64 4607182418800017408)).run Tryz.prog w = .ok (.float .f64 (wd true (rn (qT (rk x) + 1)))) w := fun t w => run_float_arith w .sub t .f64 _ _ _ hsub
              have HS : Aside0 (floorP x (wd true (rn (qT (rk x) + 1)))) := Aside0.mk ⟨wd_lt (rk_lt _), .inr ⟨hn, by rw [hs]; unfold flR; rw [if_pos c2, hw]; rfl⟩⟩
              clear hself hsv hsn hti r1 r2 r3 hle hiff hqz c2 c2' c2i c0 c1 e1 hsub
              generalize sg true (qT (rk x)) = nn at *
              generalize wd (decide (0 < qT (rk x))) (rn (qT (rk x))) = yy at *
              generalize wd true (rn (qT (rk x) + 1)) = zz at *
              go_enter Tryz.func21, Tryz.ntmps21
              go_wp2_with (first | (go_at_call 44; refine (HN.out _).mono ?_; rintro e w' ⟨rfl, rfl⟩) | (go_at_call 46; refine (HF.out _).mono ?_; rintro e w' ⟨rfl, hb⟩; have HB1 := Aside0.mk hb; clear hb) | (go_at_call 51; refine (HB.out _).mono ?_; rintro e w' ⟨rfl, rfl⟩) | simp only [hng.out] | simp only [hc1] | simp only [hop])
              go_ret
              exact ⟨_, rfl, HS.out, HB1.out⟩
        · have HS := Aside0.mk (hself (.inl (by omega)))
          have c2i : (bigR : Int) ≤ (rk x : Int) := by omega
          cases hs : sb x with
          | false =>
            rw [hs] at hsv
            by_cases c3 : sv x = bigR
            · rw [decide_eq_false (by omega)] at hg
              rw [decide_eq_true (by omega)] at he
              clear hself hsv hsn hg2 he2 c2 c2i c0 c1 c3
              go_enter Tryz.func21, Tryz.ntmps21
              go_wp2_with (first | (go_at_call 44; refine (HN.out _).mono ?_; rintro e w' ⟨rfl, rfl⟩) | (go_at_call 46; refine (HF.out _).mono ?_; rintro e w' ⟨rfl, hb⟩; have HB1 := Aside0.mk hb; clear hb) | (go_at_call 51; refine (HB.out _).mono ?_; rintro e w' ⟨rfl, rfl⟩))
              go_ret
              exact ⟨_, rfl, HS.out, HB1.out⟩
            · rw [decide_eq_true (by simp at hsv; omega)] at hg
              clear hself hsv hsn hg2 he2 c2 c2i c0 c1 c3 he
              go_enter Tryz.func21, Tryz.ntmps21
              go_wp2_with (first | (go_at_call 44; refine (HN.out _).mono ?_; rintro e w' ⟨rfl, rfl⟩) | (go_at_call 46; refine (HF.out _).mono ?_; rintro e w' ⟨rfl, hb⟩; have HB1 := Aside0.mk hb; clear hb) | (go_at_call 51; refine (HB.out _).mono ?_; rintro e w' ⟨rfl, rfl⟩))
              go_ret
              exact ⟨_, rfl, HS.out, HB1.out⟩
          | true =>
            rw [hs] at hsv
            simp at hsv
            rw [decide_eq_false (by omega)] at hg he
            by_cases c3 : -sv x = bigR
            · rw [decide_eq_false (by omega)] at hg2
              rw [decide_eq_true (by omega)] at he2
              clear hself hsv hsn c2 c2i c0 c1 c3
              go_enter Tryz.func21, Tryz.ntmps21
              go_wp2_with (first | (go_at_call 44; refine (HN.out _).mono ?_; rintro e w' ⟨rfl, rfl⟩) | (go_at_call 46; refine (HF.out _).mono ?_; rintro e w' ⟨rfl, hb⟩; have HB1 := Aside0.mk hb; clear hb) | (go_at_call 51; refine (HB.out _).mono ?_; rintro e w' ⟨rfl, rfl⟩) | simp only [hng.out])
              go_ret
              exact ⟨_, rfl, HS.out, HB1.out⟩
            · rw [decide_eq_true (by omega)] at hg2
              clear hself hsv hsn c2 c2i c0 c1 c3 he2
              go_enter Tryz.func21, Tryz.ntmps21
              go_wp2_with (first | (go_at_call 44; refine (HN.out _).mono ?_; rintro e w' ⟨rfl, rfl⟩) | (go_at_call 46; refine (HF.out _).mono ?_; rintro e w' ⟨rfl, hb⟩; have HB1 := Aside0.mk hb; clear hb) | (go_at_call 51; refine (HB.out _).mono ?_; rintro e w' ⟨rfl, rfl⟩) | simp only [hng.out])
              go_ret
              exact ⟨_, rfl, HS.out, HB1.out⟩
    · rw [decide_eq_false c1] at hFx
      have HF := Aside0.mk hFx
      have HS := Aside0.mk (hself (.inl (by omega)))
      clear hNx hFx hself
      go_enter Tryz.func21, Tryz.ntmps21
      go_wp2_with (first | (go_at_call 44; refine (HN.out _).mono ?_; rintro e w' ⟨rfl, rfl⟩) | (go_at_call 46; refine (HF.out _).mono ?_; rintro e w' ⟨rfl, hb⟩; have HB1 := Aside0.mk hb; clear hb))
      go_ret
      exact ⟨x, rfl, HS.out, HB1.out⟩
end Go.Proofs.YtghnlhadohnenaaGreatDoor
