/- The reference's scaled: the walk. -/
import Derived.Test.YtghnlhadohnenaaGreatDoorNumP
namespace Go.Proofs.YtghnlhadohnenaaGreatDoor
open Go.Shelf Go.RowKit Go.Proofs.YtghnlhadohnenaaGreatDoorW.PrintWords Go.Proofs.YtghnlhadohnenaaGreatDoorW.PrintLast Go.Proofs.YtghnlhadohnenaaGreatDoorW.PrintMore
open Go.Lib (decDigits nDigits)
set_option linter.unusedVariables false
set_option linter.unusedSimpArgs false
set_option exponentiation.threshold 3000
/-- m times 2 to the power of e, where there is such a number. -/
def Scale (m e : Int) (r : Nat) : Prop := ∀ M t y : Nat, m = M → M < 9007199254740992 → y < topR → (t : Int) = e + 1074 → mg y = M * 2 ^ t → r = y
def Mid (m e ee : Int) (a : Nat) : Prop := ∀ M t y : Nat, m = M → M < 9007199254740992 → y < topR → (t : Int) = e + 1074 → mg y = M * 2 ^ t → AtJ M (1074 + e - ee).toNat a
theorem ofInt_num (m : Int) : ∃ r, floatOfInt .f64 m = r ∧ r < 18446744073709551616 ∧ nanB r = false := by
  obtain ⟨r, k1, k2⟩ := nearest_num (decide (m < 0)) m.natAbs 0
  exact ⟨_, k1, (num_word k2).1, (num_word k2).2⟩
theorem mid_start (m e : Int) : Mid m e e (floatOfInt .f64 m) := by
  intro M t y h1 h2 h3 h4 h5
  obtain ⟨r1, r2, r3⟩ := rn_facts (n := M) (by omega)
  have : floatOfInt .f64 m = rn M := by
    rw [r3 m (by rw [h1]; simp), decide_eq_false (by omega)]
    rfl
  rw [this]
  refine ⟨r1, ?_⟩
  rw [r2]
  congr 2
  omega
theorem mid_up {m e ee : Int} {a : Nat} (h : Mid m e ee a) (he : 0 < ee ∧ ee ≤ e) (a' : Nat) (hq : floatBits .mul .f64 a 4611686018427387904 = some a') : Mid m e (ee - 1) a' := by
  intro M t y h1 h2 h3 h4 h5
  have hA := h M t y h1 h2 h3 h4 h5
  have hy : mg y < 2 ^ 2098 := by
    rw [← mg_top]
    exact mg_mono h3
  have ht : M * 2 ^ ((1074 + e - ee).toNat + 1) < 2 ^ 2098 := by
    rw [h5] at hy
    refine Nat.lt_of_le_of_lt ?_ hy
    exact Nat.mul_le_mul_left M (Nat.pow_le_pow_right (by omega) (by omega))
  obtain ⟨b, k1, k2⟩ := hA.twice h2 ht
  rw [hq] at k2
  cases k2
  have : (1074 + e - (ee - 1)).toNat = (1074 + e - ee).toNat + 1 := by omega
  rw [this]
  exact k1
theorem mid_down {m e ee : Int} {a : Nat} (h : Mid m e ee a) (he : ee < 0) (a' : Nat) (hq : floatBits .quo .f64 a 4611686018427387904 = some a') : Mid m e (ee + 1) a' := by
  intro M t y h1 h2 h3 h4 h5
  have hA := h M t y h1 h2 h3 h4 h5
  have : (1074 + e - ee).toNat = (1074 + e - (ee + 1)).toNat + 1 := by omega
  rw [this] at hA
  obtain ⟨b, k1, k2⟩ := hA.half h2
  rw [hq] at k2
  cases k2
  exact k1
theorem mid_end {m e : Int} {a : Nat} (h : Mid m e 0 a) : Scale m e a := by
  intro M t y h1 h2 h3 h4 h5
  have hA := h M t y h1 h2 h3 h4 h5
  refine hA.inj ⟨h3, ?_⟩
  rw [h5]
  congr 2
  omega
set_option maxHeartbeats 1000000 in
set_option maxRecDepth 100000 in
theorem scaled_any (m e : Int) (he : -1300 ≤ e ∧ e ≤ 1300) (w : World) :
    Calls Tryz.prog 78 #[.int .i64 m, .int .i64 e] w fun en w' => ∃ r, en = .returned (.float .f64 r) ∧ r < 18446744073709551616 ∧ Scale m e r ∧ w' = w := by
  obtain ⟨x0, hx0, hx1, hx2⟩ := ofInt_num m
  have hms := mid_start m e
  rw [hx0] at hms
  have HMS := Aside0.mk hms
  have HX2 := Aside0.mk hx2
  clear hms hx2
  go_enter Tryz.func78, Tryz.ntmps78
  go_wp2
  go_loopg [1, 5] e.toNat (fun gg s1 s5 wr => ∃ (a : Nat) (ee : Int), a < 18446744073709551616 ∧ Aside0 (nanB a = false) ∧ Aside0 (Mid m e ee a) ∧ (ee = e ∨ 0 ≤ ee) ∧ ee ≤ e ∧ ee.toNat ≤ gg ∧ s1 = .int .i64 ee ∧ s5 = .float .f64 a ∧ wr = w)
  case atStart => exact ⟨x0, e, hx1, HX2, HMS, .inl rfl, Int.le_refl _, Nat.le_refl _, rfl, rfl, rfl⟩
  case round =>
    obtain ⟨a, ee, ha, HN, HM, hee, hle, hgg, rfl, rfl, hw_⟩ := hrel
    obtain rfl := hw_.symm
    by_cases c : 0 < ee
    · obtain ⟨a', hq, ha', hn'⟩ := mul_two_some ha HN.out
      have HM' := Aside0.mk (mid_up HM.out ⟨c, hle⟩ a' hq)
      have HN' := Aside0.mk hn'
      have hop : ∀ t w, (binOp .mul t (.float .f64 a) (.float .f64 4611686018427387904)).run Tryz.prog w = .ok (.float .f64 a') w := fun t w => run_float_arith w .mul t .f64 _ _ _ hq
      clear hq hn'
      go_wp2_with (simp only [hop])
      go_roundg (ee - 1).toNat
      case measure => omega
      case rel => exact ⟨a', ee - 1, ha', HN', HM', by omega, by omega, Nat.le_refl _, rfl, rfl, rfl⟩
    · go_wp2
      have hst : ee ≤ 0 ∧ (ee = e ∨ ee = 0) := by omega
      clear hee hle hgg c
      go_loopg [1, 5] (-ee).toNat (fun gg s1 s5 wr => ∃ (a : Nat) (ee : Int), a < 18446744073709551616 ∧ Aside0 (nanB a = false) ∧ Aside0 (Mid m e ee a) ∧ ee ≤ 0 ∧ -1300 ≤ ee ∧ (-ee).toNat ≤ gg ∧ s1 = .int .i64 ee ∧ s5 = .float .f64 a ∧ wr = w)
      case atStart => exact ⟨a, ee, ha, HN, HM, hst.1, by omega, Nat.le_refl _, rfl, rfl, rfl⟩
      case round =>
        obtain ⟨a, ee, ha, HN, HM, hee, hle, hgg, rfl, rfl, hw_⟩ := hrel
        obtain rfl := hw_.symm
        by_cases c : ee < 0
        · obtain ⟨a', hq, ha', hn'⟩ := div_two_some ha HN.out
          have HM' := Aside0.mk (mid_down HM.out c a' hq)
          have HN' := Aside0.mk hn'
          have hop : ∀ t w, (binOp .quo t (.float .f64 a) (.float .f64 4611686018427387904)).run Tryz.prog w = .ok (.float .f64 a') w := fun t w => run_float_arith w .quo t .f64 _ _ _ hq
          clear hq hn'
          go_wp2_with (simp only [hop])
          go_roundg (-(ee + 1)).toNat
          case measure => omega
          case rel => exact ⟨a', ee + 1, ha', HN', HM', by omega, by omega, Nat.le_refl _, rfl, rfl, rfl⟩
        · have h0 : ee = 0 := by omega
          subst h0
          go_wp2
          go_ret
          exact ⟨a, rfl, ha, mid_end HM.out, rfl⟩
end Go.Proofs.YtghnlhadohnenaaGreatDoor
