/- math.Ldexp at a whole number: the walk. -/
import Derived.Test.YtghnlhadohnenaaGreatDoorNumW
namespace Go.Proofs.YtghnlhadohnenaaGreatDoor
set_option exponentiation.threshold 3000
open Go.Shelf Go.RowKit Go.Proofs.YtghnlhadohnenaaGreatDoorW.PrintWords Go.Proofs.YtghnlhadohnenaaGreatDoorW.PrintLast Go.Proofs.YtghnlhadohnenaaGreatDoorW.PrintMore
set_option linter.unusedVariables false
set_option linter.unusedSimpArgs false
set_option maxHeartbeats 1000000 in
set_option maxRecDepth 100000 in
theorem ldexp_zero (k : Int) (w : World) : Calls Tryz.prog 72 #[.float .f64 (rn 0), .int .i64 k] w (LdE 0 k w) := by
  rw [rn_zero]
  have h0 : (FloatKind.f64.format.order 0 0 == some .eq) = true := by decide
  have HS : Aside0 (Scale 0 k 0) := Aside0.mk ld_zero
  go_enter Tryz.func72, Tryz.ntmps72
  go_wp2
  go_ret
  exact ⟨0, rfl, by omega, by decide, HS.out, rfl⟩
set_option maxHeartbeats 1000000 in
set_option maxRecDepth 100000 in
theorem ldexp_pos (n : Nat) (hn0 : 0 < n) (hn : n < 9007199254740992) (k : Int) (hk : -2000 ≤ k ∧ k ≤ 2000) (w : World) : Calls Tryz.prog 72 #[.float .f64 (rn n), .int .i64 k] w (LdE n k w) := by
  obtain ⟨E, hE, hq, hbig, he⟩ := rn_norm hn0 hn
  obtain ⟨hat, _, _⟩ := rn_facts (n := n) (by omega)
  have hat2 : rn n < 9218868437227405312 := hat
  have hna : nanB (rn n) = false := nan_wd (s := false) (Nat.le_of_lt hat)
  have hrk : rk (rn n) = rn n := wd_rk (s := false) (by omega)
  have hsv : sv (rn n) = (rn n : Int) := sv_wd (s := false) (by omega)
  have hz := eqF_iff (x := rn n) (y := 0) (by omega) (by omega) hna (by decide)
  unfold eqF at hz
  rw [hsv, show sv 0 = 0 by decide, decide_eq_false (by omega)] at hz
  have hl := ltF_iff (x := rn n) (y := 0) (by omega) (by omega) hna (by decide)
  unfold ltF at hl
  rw [hsv, show sv 0 = 0 by decide, decide_eq_false (by omega)] at hl
  have hI := IsInf_any (rn n) (by omega)
  rw [hrk, decide_eq_false (by omega)] at hI
  have hN := IsNaN_any (rn n) (by omega)
  rw [hna] at hN
  have HI := Aside0.mk hI
  have HN := Aside0.mk hN
  have HM := Aside0.mk (fun w => normalize_any (rn n) (Nat.le_of_lt hat) hbig w)
  have HC := Aside0.mk (fun w => Copysign_any (rn n) (by omega) w)
  have hqi : (rn n : Int) / 4503599627370496 = (E : Int) + 1023 := by omega
  have h2047 := and2047 (E + 1023) (by omega)
  rw [show (((E + 1023 : Nat)) : Int) = (E : Int) + 1023 by omega] at h2047
  have hx := andNot52 (rn n) (by omega)
  have HOV := Aside0.mk (fun r h => ld_over (k := k) (r := r) he hbig h hE)
  have HNM := Aside0.mk (fun J => ld_normal (k := k) (J := J) he hbig)
  have HDN := Aside0.mk (fun J r => ld_denormal (k := k) (J := J) (r := r) he hbig)
  have HWD := Aside0.mk (fun J => ld_word (J := J) hbig)
  have hm : rn n % 4503599627370496 < 4503599627370496 := Nat.mod_lt _ (by omega)
  generalize rn n % 4503599627370496 = m at *
  have hrange : 0 ≤ (rn n : Int) := by omega
  generalize rn n = a at *
  clear he hsv hrk hna hI hN hq hat hbig
  by_cases c1 : k + E < -1075
  · have HS : Aside0 (Scale n k 0) := Aside0.mk (ld_under c1)
    clear HOV HNM HDN hx
    go_enter Tryz.func72, Tryz.ntmps72
    go_wp2_with (first | simp only [Float64bits_run] | (go_at_call 32; (with_reducible refine (HI.out _).mono ?_); rintro e w' ⟨rfl, rfl⟩) | (go_at_call 94; (with_reducible refine (HN.out _).mono ?_); rintro e w' ⟨rfl, rfl⟩) | (go_at_call 95; (with_reducible refine (HM.out _).mono ?_); rintro e w' ⟨rfl, rfl⟩) | (go_at_call 79; (with_reducible refine (HC.out _).mono ?_); rintro e w' ⟨rfl, rfl⟩))
    go_ret
    exact ⟨0, rfl, by omega, by decide, HS.out, rfl⟩
  · by_cases c2 : 1023 < k + E
    · have HS : Aside0 (Scale n k topR) := Aside0.mk (HOV.out _ c2)
      clear HOV HNM HDN hx
      go_enter Tryz.func72, Tryz.ntmps72
      go_wp2_with (first | simp only [Float64bits_run] | (go_at_call 32; (with_reducible refine (HI.out _).mono ?_); rintro e w' ⟨rfl, rfl⟩) | (go_at_call 94; (with_reducible refine (HN.out _).mono ?_); rintro e w' ⟨rfl, rfl⟩) | (go_at_call 95; (with_reducible refine (HM.out _).mono ?_); rintro e w' ⟨rfl, rfl⟩) | (go_at_call 79; (with_reducible refine (HC.out _).mono ?_); rintro e w' ⟨rfl, rfl⟩) | (go_at_call 39; (with_reducible refine (Inf_any _).mono ?_); rintro e w' ⟨rfl, rfl⟩))
      go_ret
      exact ⟨topR, rfl, by decide, by decide, HS.out, rfl⟩
    · by_cases c3 : k + E < -1022
      · obtain ⟨J, hJ⟩ : ∃ J : Nat, (J : Int) = k + E + 53 + 1023 := ⟨(k + E + 53 + 1023).toNat, by omega⟩
        have ho := orJ m J hm (by omega)
        rw [show ((J * 4503599627370496 : Nat) : Int) = (k + E + 53 + 1023) * 4503599627370496 by omega] at ho
        obtain ⟨hb1, hb2⟩ := HWD.out J (by omega) (by omega)
        have hs := HDN.out J
        obtain ⟨r, hr, hr1, hr2⟩ := mul_wd false false (a := 4368491638549381120) (b := J * 4503599627370496 + m) (by decide) hb1
        have HS := Aside0.mk (hs r hJ (by omega) (by omega) hr)
        have hmul : floatBits .mul .f64 4368491638549381120 (J * 4503599627370496 + m) = some r := hr
        generalize J * 4503599627370496 + m = b at *
        have hfb := fun w => Float64frombits_run b w
        have hop : ∀ t w, (binOp .mul t (.float .f64 4368491638549381120) (.float .f64 b)).run Tryz.prog w = .ok (.float .f64 r) w := fun t w => run_float_arith w .mul t .f64 _ _ _ hmul
        have HR2 := Aside0.mk hr2
        clear HOV HNM HDN hs hr hmul hb2 hJ HWD hr2
        go_enter Tryz.func72, Tryz.ntmps72
        go_wp2_with (first | simp only [Float64bits_run] | simp only [hfb] | simp only [hop] | (go_at_call 32; (with_reducible refine (HI.out _).mono ?_); rintro e w' ⟨rfl, rfl⟩) | (go_at_call 94; (with_reducible refine (HN.out _).mono ?_); rintro e w' ⟨rfl, rfl⟩) | (go_at_call 95; (with_reducible refine (HM.out _).mono ?_); rintro e w' ⟨rfl, rfl⟩))
        go_ret
        exact ⟨r, rfl, hr1, HR2.out, HS.out, rfl⟩
      · obtain ⟨J, hJ⟩ : ∃ J : Nat, (J : Int) = k + E + 1023 := ⟨(k + E + 1023).toNat, by omega⟩
        have ho := orJ m J hm (by omega)
        rw [show ((J * 4503599627370496 : Nat) : Int) = (k + E + 1023) * 4503599627370496 by omega] at ho
        obtain ⟨hb1, hb2⟩ := HWD.out J (by omega) (by omega)
        have HS := Aside0.mk (HNM.out J hJ (by omega) (by omega))
        have hmul := mul_exact false false 4607182418800017408 (J * 4503599627370496 + m) (J * 4503599627370496 + m) (by decide) hb1 hb1 (by rw [mg_one, Nat.mul_comm])
        have hmul : floatBits .mul .f64 4607182418800017408 (J * 4503599627370496 + m) = some (J * 4503599627370496 + m) := hmul
        generalize J * 4503599627370496 + m = b at *
        have hfb := fun w => Float64frombits_run b w
        have hop : ∀ t w, (binOp .mul t (.float .f64 4607182418800017408) (.float .f64 b)).run Tryz.prog w = .ok (.float .f64 b) w := fun t w => run_float_arith w .mul t .f64 _ _ _ hmul
        have HR2 := Aside0.mk (nan_wd (s := false) (Nat.le_of_lt hb1))
        have hr1 : b < 18446744073709551616 := by unfold topR at hb1; omega
        clear HOV HNM HDN hmul hb2 hJ HWD hb1
        go_enter Tryz.func72, Tryz.ntmps72
        go_wp2_with (first | simp only [Float64bits_run] | simp only [hfb] | simp only [hop] | (go_at_call 32; (with_reducible refine (HI.out _).mono ?_); rintro e w' ⟨rfl, rfl⟩) | (go_at_call 94; (with_reducible refine (HN.out _).mono ?_); rintro e w' ⟨rfl, rfl⟩) | (go_at_call 95; (with_reducible refine (HM.out _).mono ?_); rintro e w' ⟨rfl, rfl⟩))
        go_ret
        exact ⟨b, rfl, hr1, HR2.out, HS.out, rfl⟩
theorem Ldexp_any (n : Nat) (hn : n < 9007199254740992) (k : Int) (hk : -2000 ≤ k ∧ k ≤ 2000) (w : World) : Calls Tryz.prog 43 #[.float .f64 (rn n), .int .i64 k] w (LdE n k w) := by
  have H : ∀ w, Calls Tryz.prog 72 #[.float .f64 (rn n), .int .i64 k] w (LdE n k w) := fun w => by
    rcases Nat.eq_zero_or_pos n with h | h
    · subst h; exact ldexp_zero k w
    · exact ldexp_pos n h hn k hk w
  go_enter Tryz.func43, Tryz.ntmps43
  go_wp2_with (go_at_call 72; (with_reducible refine (H _).mono ?_); rintro e w' ⟨r, rfl, h1, h2, h3, rfl⟩; have H1 := Aside0.mk h1; have H2 := Aside0.mk h2; have H3 := Aside0.mk h3; clear h1 h2 h3)
  go_ret
  exact ⟨r, rfl, H1.out, H2.out, H3.out, rfl⟩
end Go.Proofs.YtghnlhadohnenaaGreatDoor
