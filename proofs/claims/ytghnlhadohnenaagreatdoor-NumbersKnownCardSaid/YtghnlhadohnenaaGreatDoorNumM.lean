/- The reference's parts and Print: the walks. -/
import Derived.Test.YtghnlhadohnenaaGreatDoorNumL
import Derived.Test.YtghnlhadohnenaaGreatDoorNumJ
namespace Go.Proofs.YtghnlhadohnenaaGreatDoor
open Go.Shelf Go.RowKit Go.Lib Go.Proofs.YtghnlhadohnenaaGreatDoorW.PrintWords Go.Proofs.YtghnlhadohnenaaGreatDoorW.PrintMore
set_option linter.unusedVariables false
set_option linter.unusedSimpArgs false
set_option exponentiation.threshold 3000
def topE (r : Nat) : Nat := dp r + tzM r
theorem odd_facts (r : Nat) (h : 0 < r) : mg r = oddM r * 2 ^ topE r ∧ oddM r % 2 = 1 ∧ dm r = oddM r * 2 ^ tzM r := by
  have h1 := dm_lt r
  have h2 := dm_pos h
  obtain ⟨m, e, _⟩ := Lib.ctzFrom_spec 64 (dm r) h2 (by omega)
  have e2 : Lib.ctzFrom 64 (dm r) = tzM r := by unfold tzM Lib.ctz; rw [if_neg (by omega)]
  rw [e2] at e
  have e3 : oddM r = 2 * m + 1 := by
    unfold oddM
    rw [e, Nat.mul_comm, Nat.mul_div_cancel _ (Nat.two_pow_pos _)]
  refine ⟨?_, by omega, by rw [e3, e, Nat.mul_comm]⟩
  unfold mg topE
  rw [e3, Nat.pow_add, e]
  rw [Nat.mul_comm (2 ^ tzM r), Nat.mul_assoc, Nat.mul_comm (2 ^ tzM r)]
theorem expM_eq (r : Nat) : expM r = (topE r : Int) - 1074 := by unfold expM topE; omega
theorem mg_lt_top {a : Nat} (h : mg a < 2 ^ 2098) : a < topR := by
  rw [← mg_top] at h
  exact mg_lt_iff.1 h
/-- A rung in steps of two. -/
structure AtJ (m j a : Nat) : Prop where
  top : a < topR
  eq : mg a = m * 2 ^ j
theorem AtJ.down {m j a : Nat} (h : AtJ m j a) (hm : m < 9007199254740992) (hb : bigR ≤ a) : 1075 ≤ j ∧ ∃ a', AtJ m (j - 1) a' ∧ floatBits .quo .f64 a 4611686018427387904 = some a' := by
  have h1 : 9007199254740992 * 2 ^ 1074 ≤ m * 2 ^ j := by
    rw [← h.eq, ← mg_big]
    exact mg_le hb
  have hj : 1075 ≤ j := by
    rcases Nat.lt_or_ge j 1075 with c | c
    · have h2 : 2 ^ j ≤ 2 ^ 1074 := Nat.pow_le_pow_right (by omega) (by omega)
      have h3 : m * 2 ^ j < 9007199254740992 * 2 ^ 1074 := Nat.lt_of_le_of_lt (Nat.mul_le_mul_left m h2) (Nat.mul_lt_mul_of_pos_right hm (Nat.two_pow_pos _))
      omega
    · exact c
  have hs : m * 2 ^ j = m * 2 ^ (j - 1) * 2 := by
    rw [Nat.mul_assoc, ← Nat.pow_succ]
    congr 2
    omega
  have ht : m * 2 ^ j < 2 ^ 2098 := by
    rw [← h.eq, ← mg_top]
    exact mg_mono h.top
  obtain ⟨a', k1, k2⟩ := rung_ex m (j - 1) hm (by omega)
  refine ⟨hj, a', ⟨k1, k2⟩, ?_⟩
  exact div_two false a a' h.top k1 (by rw [h.eq, k2, hs])
theorem mg_two : mg 4611686018427387904 = 2 ^ 1075 := by
  have h1 : dm 4611686018427387904 = 2 ^ 52 := by decide
  have h2 : dp 4611686018427387904 = 1023 := by decide
  unfold mg
  rw [h1, h2, ← Nat.pow_add]
theorem AtJ.whole {m j a : Nat} (h : AtJ m j a) (hb : a < bigR) (hj : 1074 ≤ j) : whB a = true ∧ qT a = m * 2 ^ (j - 1074) := by
  have hs : m * 2 ^ j = m * 2 ^ (j - 1074) * 2 ^ 1074 := by
    rw [Nat.mul_assoc, ← Nat.pow_add]
    congr 2
    omega
  unfold whB qT
  rw [h.eq, hs, Nat.mul_mod_left, Nat.mul_div_cancel _ (Nat.two_pow_pos _)]
  exact ⟨rfl, rfl⟩
theorem AtJ.up {m j a : Nat} (h : AtJ m j a) (hm : m < 9007199254740992) (ho : m % 2 = 1) (hw : whB a = false) (hb : a < bigR) : j < 1074 ∧ ∃ a', AtJ m (j + 1) a' ∧ a' < bigR ∧ floatBits .mul .f64 a 4611686018427387904 = some a' := by
  have hj : j < 1074 := by
    rcases Nat.lt_or_ge j 1074 with c | c
    · exact c
    · rw [(h.whole hb c).1] at hw
      cases hw
  have hlt : m * 2 ^ (j + 1) < 9007199254740992 * 2 ^ 1074 := by
    have h2 : 2 ^ (j + 1) ≤ 2 ^ 1074 := Nat.pow_le_pow_right (by omega) (by omega)
    exact Nat.lt_of_le_of_lt (Nat.mul_le_mul_left m h2) (Nat.mul_lt_mul_of_pos_right hm (Nat.two_pow_pos _))
  have hbig : (9007199254740992 : Nat) * 2 ^ 1074 < 2 ^ 2098 := by
    rw [← mg_big, ← mg_top]
    exact mg_mono bigR_lt
  obtain ⟨a', k1, k2⟩ := rung_ex m (j + 1) hm (by omega)
  refine ⟨hj, a', ⟨k1, k2⟩, lt_big.2 (by rw [k2]; exact hlt), ?_⟩
  refine mul_exact false false a 4611686018427387904 a' h.top (by decide) k1 ?_
  rw [h.eq, k2, mg_two, Nat.mul_assoc, Nat.mul_assoc, ← Nat.pow_add, ← Nat.pow_add]
theorem wrap_nat {n : Nat} (h : n < 9007199254740992) : wrap64 (n : Int) = n := by unfold wrap64; omega
theorem ge_big {a : Nat} (h : a < topR) : (FloatKind.f64.format.order a bigR == some .gt) = decide (bigR < a) ∧ (FloatKind.f64.format.order a bigR == some .eq) = decide (a = bigR) := by
  have hlt : a < 9223372036854775808 := by unfold topR at h; omega
  have h1 := gtF_iff (x := a) (by omega) bigR_lt64 (nan_wd (s := false) (r := a) (by omega)) nan_big
  have h2 := eqF_iff (x := a) (by omega) bigR_lt64 (nan_wd (s := false) (r := a) (by omega)) nan_big
  unfold gtF at h1
  unfold eqF at h2
  rw [h1, h2, sv_big, show sv a = (a : Int) from sv_wd (s := false) hlt]
  exact ⟨by by_cases c : bigR < a; rw [decide_eq_true c, decide_eq_true (by omega)]; rw [decide_eq_false c, decide_eq_false (by omega)], by by_cases c : a = bigR; rw [decide_eq_true c, decide_eq_true (by omega)]; rw [decide_eq_false c, decide_eq_false (by omega)]⟩
theorem whole_at {a : Nat} (h : a < topR) (w : World) : Calls Tryz.prog 47 #[.float .f64 a] w fun e w' => e = .returned (.tuple #[.int .i64 (wholeN a).1, .bool (wholeN a).2]) ∧ w' = w := by
  have hlt : a < 9223372036854775808 := by unfold topR at h; omega
  have h1 := whole_any a (by omega) (nan_wd (s := false) (r := a) (by omega)) (by rw [show sv a = (a : Int) from sv_wd (s := false) hlt]; omega) w
  rw [show rk a = a from wd_rk (s := false) hlt] at h1
  exact h1
set_option maxHeartbeats 2000000 in
set_option maxRecDepth 100000 in
theorem refParts_any (r : Nat) (h0 : 0 < r) (hr : r < topR) (w : World) :
    Calls Tryz.prog 49 #[.float .f64 r] w fun e w' => e = .returned (.tuple #[.int .i64 (oddM r), .int .i64 (expM r)]) ∧ w' = w := by
  have HB := Aside0.mk big_any
  have HW := Aside0.mk @whole_at
  obtain ⟨ho1, ho2, _⟩ := odd_facts r h0
  have hm := odd_lt r
  have hE := expM_eq r
  have hT1 : topE r < 3000 := by have := tz_lt r h0; unfold topE dp; unfold topR at hr; omega
  have HST : Aside0 (AtJ (oddM r) (topE r) r) := Aside0.mk ⟨hr, ho1⟩
  clear ho1
  generalize hem : oddM r = m at *
  generalize het : topE r = t at *
  generalize expM r = ee at *
  clear hem het h0
  subst hE
  have HM := Aside0.mk hm
  have HO := Aside0.mk ho2
  go_enter Tryz.func49, Tryz.ntmps49
  go_wp2
  go_loopg [0, 4] t (fun gg s0 s4 wr => ∃ a j : Nat, Aside0 (AtJ m j a) ∧ j ≤ t ∧ j ≤ gg ∧ s0 = .float .f64 a ∧ s4 = .int .i64 ((t : Int) - j) ∧ wr = w)
  case atStart => exact ⟨r, t, HST, Nat.le_refl _, Nat.le_refl _, rfl, by simp, rfl⟩
  case round =>
    obtain ⟨a, j, HA, hjt, hjg, rfl, rfl, hw_⟩ := hrel
    obtain rfl := hw_.symm
    obtain ⟨hg, he⟩ := ge_big HA.out.top
    by_cases c : bigR ≤ a
    · obtain ⟨hj, a', hA', hq⟩ := HA.out.down HM.out c
      have hop : ∀ t w, (binOp .quo t (.float .f64 a) (.float .f64 4611686018427387904)).run Tryz.prog w = .ok (.float .f64 a') w := fun t w => run_float_arith w .quo t .f64 _ _ _ hq
      have HA' := Aside0.mk hA'
      clear hq hA'
      by_cases c2 : a = bigR
      · rw [decide_eq_false (by omega)] at hg
        rw [decide_eq_true c2] at he
        clear c c2
        go_wp2_with (first | (go_at_call 51; refine (HB.out _).mono ?_; rintro e w' ⟨rfl, hw_⟩; obtain rfl := hw_.symm) | simp only [hop])
        go_roundg (j - 1)
        case measure => omega
        case rel => exact ⟨a', j - 1, HA', by omega, by omega, rfl, by congr 1; omega, rfl⟩
      · rw [decide_eq_true (by omega)] at hg
        clear c c2
        go_wp2_with (first | (go_at_call 51; refine (HB.out _).mono ?_; rintro e w' ⟨rfl, hw_⟩; obtain rfl := hw_.symm) | simp only [hop])
        go_roundg (j - 1)
        case measure => omega
        case rel => exact ⟨a', j - 1, HA', by omega, by omega, rfl, by congr 1; omega, rfl⟩
    · rw [decide_eq_false (by omega)] at hg he
      have HLT : Aside0 (a < bigR) := Aside0.mk (by omega)
      clear c
      go_wp2_with (go_at_call 51; refine (HB.out _).mono ?_; rintro e w' ⟨rfl, hw_⟩; obtain rfl := hw_.symm)
      clear hg he
      go_loopg [0, 4] (1074 - j) (fun gg s0 s4 wr => ∃ a j : Nat, Aside0 (AtJ m j a ∧ a < bigR) ∧ j ≤ 3000 ∧ 1074 - j ≤ gg ∧ s0 = .float .f64 a ∧ s4 = .int .i64 ((t : Int) - j) ∧ wr = w)
      case atStart => exact ⟨a, j, Aside0.mk ⟨HA.out, HLT.out⟩, by omega, Nat.le_refl _, rfl, rfl, rfl⟩
      case round =>
        obtain ⟨a, j, HA, hj3, hjg, rfl, rfl, hw_⟩ := hrel
        obtain rfl := hw_.symm
        have hWA := HW.out HA.out.1.top
        cases hwb : whB a with
        | false =>
          obtain ⟨hj, a', hA', hlt', hq⟩ := HA.out.1.up HM.out HO.out hwb HA.out.2
          have hwn : wholeN a = (0, false) := by unfold wholeN; rw [if_neg (fun h => by rw [h.2] at hwb; cases hwb)]
          rw [hwn] at hWA
          have HWA := Aside0.mk hWA
          have hop : ∀ t w, (binOp .mul t (.float .f64 a) (.float .f64 4611686018427387904)).run Tryz.prog w = .ok (.float .f64 a') w := fun t w => run_float_arith w .mul t .f64 _ _ _ hq
          have HA' := Aside0.mk (And.intro hA' hlt')
          clear hq hA' hlt' hWA hwn hwb
          go_wp2_with (first | (go_at_call 47; refine (HWA.out _).mono ?_; rintro e w' ⟨rfl, hw_⟩; obtain rfl := hw_.symm) | simp only [hop])
          go_roundg (1074 - (j + 1))
          case measure => omega
          case rel => exact ⟨a', j + 1, HA', by omega, Nat.le_refl _, rfl, by congr 1; omega, rfl⟩
        | true =>
          have hj : 1074 ≤ j := by
            rcases Nat.lt_or_ge j 1074 with c | c
            · have h1 := qT_wh hwb
              rw [HA.out.1.eq] at h1
              have h2 : (2 : Nat) ^ 1074 = 2 ^ (1074 - j) * 2 ^ j := by rw [← Nat.pow_add]; congr 1; omega
              rw [h2, ← Nat.mul_assoc] at h1
              have h3 := Nat.eq_of_mul_eq_mul_right (Nat.two_pow_pos _) h1
              have h4 : (2 : Nat) ^ (1074 - j) = 2 ^ (1074 - j - 1) * 2 := by rw [← Nat.pow_succ]; congr 1; omega
              rw [h4, ← Nat.mul_assoc] at h3
              have := HO.out
              omega
            · exact c
          have hq := (HA.out.1.whole HA.out.2 hj).2
          have hwn : wholeN a = (((m * 2 ^ (j - 1074) : Nat) : Int), true) := by unfold wholeN; rw [if_pos ⟨HA.out.2, hwb⟩, hq]
          rw [hwn] at hWA
          have HWA := Aside0.mk hWA
          have HN0 : Aside0 (m * 2 ^ (j - 1074) < 9007199254740992) := Aside0.mk (by rw [← hq]; exact qT_lt HA.out.2)
          clear hWA hwn hwb hq HA
          obtain ⟨i, hi⟩ : ∃ i, i = j - 1074 := ⟨_, rfl⟩
          have hji : j = i + 1074 := by omega
          subst hji
          rw [show i + 1074 - 1074 = i by omega] at HWA HN0
          clear hi hj
          go_wp2_with (go_at_call 47; refine (HWA.out _).mono ?_; rintro e w' ⟨rfl, hw_⟩; obtain rfl := hw_.symm)
          have hE3 : Aside0 ((t : Int) - ((i + 1074 : Nat) : Int) = (t : Int) - 1074 - i) := Aside0.mk (by omega)
          have hi3 : i ≤ 3000 := by omega
          clear HA HLT hjt hjg hj3
          obtain ⟨N0, hN0⟩ : ∃ N0, N0 = m * 2 ^ i := ⟨_, rfl⟩
          have HE0 := Aside0.mk hN0
          clear hN0
          go_loopg [4, 7] i (fun gg s4 s7 wr => ∃ i N : Nat, i ≤ gg ∧ i ≤ 3000 ∧ N < 9007199254740992 ∧ Aside0 (N = m * 2 ^ i) ∧ s7 = .int .i64 (N : Int) ∧ s4 = .int .i64 ((t : Int) - 1074 - i) ∧ wr = w)
          case atStart => exact ⟨i, N0, Nat.le_refl _, hi3, by rw [HE0.out]; exact HN0.out, HE0, by rw [HE0.out]; simp, by congr 1; omega, rfl⟩
          case round =>
            obtain ⟨i, N, hig, hi4, hN, HNE, rfl, rfl, hw_⟩ := hrel
            obtain rfl := hw_.symm
            rcases Nat.eq_zero_or_pos i with h0 | hp
            · subst h0
              have hNm : N = m := by have := HNE.out; rw [Nat.pow_zero, Nat.mul_one] at this; exact this
              have ho := HO.out
              subst hNm
              go_wp2
              go_ret2
              exact ⟨rfl, rfl⟩
            · obtain ⟨N', hN1, hN2⟩ : ∃ N', N = 2 * N' ∧ N' = m * 2 ^ (i - 1) := ⟨m * 2 ^ (i - 1), by
                rw [HNE.out, Nat.mul_left_comm, ← Nat.pow_succ']
                congr 2
                omega, rfl⟩
              have HND := Aside0.mk hN2
              clear hN2 HNE
              subst hN1
              go_wp2
              go_roundg (i - 1)
              case measure => omega
              case rel => exact ⟨i - 1, N', Nat.le_refl _, by omega, by omega, HND, by first | rfl | (congr 1; unfold wrap64; omega), by congr 1; omega, rfl⟩
end Go.Proofs.YtghnlhadohnenaaGreatDoor
