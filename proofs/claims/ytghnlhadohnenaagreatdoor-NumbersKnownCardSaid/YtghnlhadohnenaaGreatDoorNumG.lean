/- Plain: whole numbers among doubles. No program. -/
import Derived.Test.YtghnlhadohnenaaGreatDoorNumB
import Derived.Laws.FloatArith
namespace Go.Proofs.YtghnlhadohnenaaGreatDoor
open Ieee Go
set_option linter.unusedVariables false
set_option linter.unusedSimpArgs false
set_option exponentiation.threshold 3000
/-- 2^53's rung; the whole part of a rung; is it whole? -/
def bigR : Nat := 4845873199050653696
def qT (r : Nat) : Nat := mg r / 2 ^ 1074
def whB (r : Nat) : Bool := mg r % 2 ^ 1074 == 0
theorem dm_big : dm bigR = 2 ^ 52 := by decide
theorem dp_big : dp bigR = 1075 := by decide
theorem mg_big : mg bigR = 9007199254740992 * 2 ^ 1074 := by
  unfold mg
  rw [dm_big, dp_big, show (9007199254740992 : Nat) = 2 ^ 53 by decide, ← Nat.pow_add]
theorem lt_big {r : Nat} : r < bigR ↔ mg r < 9007199254740992 * 2 ^ 1074 := by rw [← mg_big]; exact mg_lt_iff.symm
theorem bigR_lt : bigR < topR := by decide
theorem qT_lt {r : Nat} (h : r < bigR) : qT r < 9007199254740992 := by
  have := lt_big.1 h
  unfold qT
  exact (Nat.div_lt_iff_lt_mul (Nat.two_pow_pos _)).2 this
theorem qT_wh {r : Nat} (h : whB r = true) : mg r = qT r * 2 ^ 1074 := by
  have h' : mg r % 2 ^ 1074 = 0 := by simpa [whB] using h
  have := Nat.div_add_mod (mg r) (2 ^ 1074)
  rw [h', Nat.add_zero, Nat.mul_comm] at this
  exact this.symm
theorem wh_big {r : Nat} (h : bigR ≤ r) : whB r = true := by
  have h1 : 1075 ≤ dp r := by unfold dp bigR at *; omega
  unfold whB mg
  rw [beq_iff_eq, show dp r = (dp r - 1074) + 1074 by omega, Nat.pow_add, ← Nat.mul_assoc, Nat.mul_mod_left]
/-- The rung of a whole number. -/
def rn (n : Nat) : Nat := rk (floatOfInt .f64 (n : Int))
theorem rn_facts {n : Nat} (h : n ≤ 9007199254740992) : rn n < topR ∧ mg (rn n) = n * 2 ^ 1074 ∧ (∀ z : Int, z.natAbs = n → floatOfInt .f64 z = wd (decide (z < 0)) (rn n)) := by
  have hex : ∃ r, r < topR ∧ mg r = n * 2 ^ 1074 := by
    by_cases c : n < 9007199254740992
    · refine rung_ex n 1074 c ?_
      refine Nat.lt_of_lt_of_le (Nat.mul_lt_mul_of_pos_right c (Nat.two_pow_pos _)) ?_
      rw [show (9007199254740992 : Nat) = 2 ^ 53 by decide, ← Nat.pow_add]
      exact Nat.pow_le_pow_right (by omega) (by omega)
    · have : n = 9007199254740992 := by omega
      subst this
      exact ⟨bigR, bigR_lt, mg_big⟩
  obtain ⟨r, h1, h2⟩ := hex
  have key : ∀ z : Int, z.natAbs = n → floatOfInt .f64 z = wd (decide (z < 0)) r := fun z hz => ofInt_exact z r h1 (by rw [hz]; exact h2.symm)
  have e : rn n = r := by
    unfold rn
    rw [key n (by simp), wd_rk (by unfold topR at h1; omega)]
  rw [e]
  exact ⟨h1, h2, key⟩
theorem rn_qT {r : Nat} (h : r < bigR) (hw : whB r = true) : rn (qT r) = r := by
  have h1 := qT_lt h
  obtain ⟨_, h2, _⟩ := rn_facts (n := qT r) (by omega)
  exact mg_inj (by rw [h2, ← qT_wh hw])
theorem rn_qT_iff {r : Nat} (h : r < bigR) : rn (qT r) = r ↔ whB r = true := by
  refine ⟨fun e => ?_, rn_qT h⟩
  have h1 := qT_lt h
  obtain ⟨_, h2, _⟩ := rn_facts (n := qT r) (by omega)
  rw [e] at h2
  unfold whB
  rw [h2, beq_iff_eq, Nat.mul_mod_left]
theorem rn_zero : rn 0 = 0 := by decide +kernel
theorem rn_mono {a b : Nat} (ha : a ≤ 9007199254740992) (hb : b ≤ 9007199254740992) : rn a < rn b ↔ a < b := by
  obtain ⟨_, h1, _⟩ := rn_facts ha
  obtain ⟨_, h2, _⟩ := rn_facts hb
  rw [← mg_lt_iff, h1, h2]
  exact ⟨fun h => Nat.lt_of_mul_lt_mul_right h, fun h => Nat.mul_lt_mul_of_pos_right h (Nat.two_pow_pos _)⟩
theorem rn_le {r : Nat} (h : r < bigR) : rn (qT r) ≤ r := by
  have h1 := qT_lt h
  obtain ⟨_, h2, _⟩ := rn_facts (n := qT r) (by omega)
  have : mg (rn (qT r)) ≤ mg r := by rw [h2]; exact Nat.div_mul_le_self _ _
  rcases Nat.lt_or_ge r (rn (qT r)) with c | c
  · have := mg_mono c
    omega
  · exact c
theorem rn_gt {r : Nat} (h : r < bigR) : r < rn (qT r + 1) := by
  have h1 := qT_lt h
  obtain ⟨_, h2, _⟩ := rn_facts (n := qT r + 1) (by omega)
  rw [← mg_lt_iff, h2]
  exact Nat.lt_succ_mul_of_div_lt' (mg r) (qT r)
where
  Nat.lt_succ_mul_of_div_lt' (m q : Nat) : mg r < (qT r + 1) * 2 ^ 1074 := by
    have := Nat.div_add_mod (mg r) (2 ^ 1074)
    have h2 := Nat.mod_lt (mg r) (Nat.two_pow_pos 1074)
    rw [Nat.add_mul, Nat.one_mul, Nat.mul_comm (qT r)]
    unfold qT
    omega
theorem cut_any (way : Toward) (hway : way = .zero ∨ way = .down) (s : Bool) (a : Nat) : way.cut s (dm a <<< (-1074 + (dp a : Int)).toNat) (-(-1074 + (dp a : Int))).toNat = qT a + ((way == .down) && s && !whB a).toNat := by
  have main : ∀ rest low : Nat, ∀ gap, gap = 1 <<< min (-(-1074 + (dp a : Int))).toNat ((dm a <<< (-1074 + (dp a : Int)).toNat).log2 + 2) → low = (dm a <<< (-1074 + (dp a : Int)).toNat) / gap → rest = (dm a <<< (-1074 + (dp a : Int)).toNat) % gap → low = qT a ∧ (rest = 0 ↔ whB a = true) := by
    intro rest low gap hg hl hr
    rw [hl, hr, hg]
    clear hl hr hg rest low gap
    simp only [Nat.shiftLeft_eq, Nat.one_mul]
    rcases Nat.lt_or_ge (dp a) 1074 with c | c
    · rw [show (-1074 + (dp a : Int)).toNat = 0 by omega, show (-(-1074 + (dp a : Int))).toNat = 1074 - dp a by omega, Nat.pow_zero, Nat.mul_one]
      have e2 : (2 : Nat) ^ 1074 = 2 ^ (1074 - dp a) * 2 ^ dp a := by rw [← Nat.pow_add]; congr 1; omega
      have e : qT a = dm a / 2 ^ (1074 - dp a) := by
        unfold qT mg
        rw [e2, Nat.mul_div_mul_right _ _ (Nat.two_pow_pos _)]
      have ew : whB a = true ↔ dm a % 2 ^ (1074 - dp a) = 0 := by
        unfold whB mg
        rw [e2, Nat.mul_mod_mul_right, beq_iff_eq]
        exact ⟨fun h => (Nat.mul_eq_zero.1 h).resolve_right (Nat.ne_of_gt (Nat.two_pow_pos _)), fun h => by rw [h, Nat.zero_mul]⟩
      rw [e, ew]
      rcases Nat.lt_or_ge (1074 - dp a) ((dm a).log2 + 2) with d | d
      · rw [Nat.min_eq_left (by omega)]
        exact ⟨rfl, Iff.rfl⟩
      · rw [Nat.min_eq_right d]
        have h1 : dm a < 2 ^ ((dm a).log2 + 2) := Nat.lt_of_lt_of_le Nat.lt_log2_self (Nat.pow_le_pow_right (by omega) (by omega))
        have h2 : dm a < 2 ^ (1074 - dp a) := Nat.lt_of_lt_of_le h1 (Nat.pow_le_pow_right (by omega) d)
        rw [Nat.div_eq_of_lt h1, Nat.div_eq_of_lt h2, Nat.mod_eq_of_lt h1, Nat.mod_eq_of_lt h2]
        exact ⟨rfl, Iff.rfl⟩
    · rw [show (-(-1074 + (dp a : Int))).toNat = 0 by omega, show (-1074 + (dp a : Int)).toNat = dp a - 1074 by omega, Nat.zero_min, Nat.pow_zero, Nat.div_one, Nat.mod_one]
      have e2 : (2 : Nat) ^ dp a = 2 ^ (dp a - 1074) * 2 ^ 1074 := by rw [← Nat.pow_add]; congr 1; omega
      refine ⟨?_, fun _ => ?_, fun _ => rfl⟩
      · unfold qT mg
        rw [e2, ← Nat.mul_assoc, Nat.mul_div_cancel _ (Nat.two_pow_pos _)]
      · unfold whB mg
        rw [e2, ← Nat.mul_assoc, beq_iff_eq, Nat.mul_mod_left]
  obtain ⟨h1, h2⟩ := main _ _ _ rfl rfl rfl
  unfold Toward.cut
  simp only
  rw [h1]
  congr 2
  rcases hway with rfl | rfl
  · rfl
  · generalize dm a <<< (-1074 + (dp a : Int)).toNat % 1 <<< min (-(-1074 + (dp a : Int))).toNat ((dm a <<< (-1074 + (dp a : Int)).toNat).log2 + 2) = rest at *
    cases s <;> cases hw : whB a <;> simp [hw] at h2 ⊢ <;> omega
theorem nearest_whole (s : Bool) (n : Nat) (h : n ≤ 9007199254740992) : double.nearest s n 0 = wd s (rn n) := by
  obtain ⟨h1, h2, _⟩ := rn_facts h
  refine nearest_exact s n 0 _ h1 ?_
  rw [show ((0 : Int) + 1074).toNat = 1074 by omega, show (-((0 : Int) + 1074)).toNat = 0 by omega, Nat.pow_zero, Nat.mul_one, h2]
theorem nearest_huge (s : Bool) (a : Nat) (h : a < topR) (hw : whB a = true) : double.nearest s (qT a) 0 = wd s a := by
  refine nearest_exact s _ 0 _ h ?_
  rw [show ((0 : Int) + 1074).toNat = 1074 by omega, show (-((0 : Int) + 1074)).toNat = 0 by omega, Nat.pow_zero, Nat.mul_one, ← qT_wh hw]
/-- Truncated; made whole downwards. -/
theorem trunc_num (s : Bool) (a : Nat) (h : a < bigR) : double.write ((double.read (wd s a)).integral .zero) = wd s (rn (qT a)) := by
  have := bigR_lt
  rw [read_num s a (by omega)]
  show double.nearest s (Toward.zero.cut s _ _) 0 = _
  rw [cut_any .zero (.inl rfl), show ((Toward.zero == Toward.down) && s && !whB a).toNat = 0 from rfl, Nat.add_zero, nearest_whole s _ (by have := qT_lt h; omega)]
/-- The greatest whole number not above. -/
def flR (s : Bool) (a : Nat) : Nat := if a < bigR then rn (qT a + (s && !whB a).toNat) else a
theorem floor_num (s : Bool) (a : Nat) (h : a ≤ topR) : double.write ((double.read (wd s a)).integral .down) = wd s (flR s a) := by
  unfold flR
  rcases read_of s h with ⟨h1, e⟩ | ⟨h1, e⟩
  · rw [e]
    show double.nearest s (Toward.down.cut s _ _) 0 = _
    rw [cut_any .down (.inr rfl), show ((Toward.down == Toward.down) && s && !whB a) = (s && !whB a) by simp]
    split
    · rename_i hb
      have := qT_lt hb
      have hn : (s && !whB a).toNat ≤ 1 := by cases (s && !whB a) <;> decide
      exact nearest_whole s _ (by omega)
    · rename_i hb
      have hw := wh_big (r := a) (by omega)
      rw [hw]
      simp only [Bool.not_true, Bool.and_false, Bool.toNat_false, Nat.add_zero]
      exact nearest_huge s a h1 hw
  · have := bigR_lt
    rw [e, if_neg (by omega), h1]
    exact wd_word s topR
theorem toInt_whole (s : Bool) (a : Nat) (h : a < bigR) (dst : IntKind) (hd : dst = .i64 ∨ (dst = .u64 ∧ s = false)) : floatToIntVal .f64 (wd s a) dst = some (sg s (qT a)) := by
  have hq := qT_lt h
  have hb := bigR_lt
  unfold floatToIntVal
  rw [show FloatKind.f64.decode (wd s a) = double.read (wd s a) from rfl, toInt_num s a (by omega)]
  simp only
  have : sg s (mg a / 2 ^ 1074) = sg s (qT a) := rfl
  rw [this]
  refine if_pos ?_
  unfold sg
  rcases hd with rfl | ⟨rfl, rfl⟩
  · show (-9223372036854775808 : Int) ≤ _ ∧ _ ≤ (9223372036854775807 : Int)
    cases s <;> simp <;> omega
  · show (0 : Int) ≤ _ ∧ _ ≤ (18446744073709551615 : Int)
    simp
    omega
end Go.Proofs.YtghnlhadohnenaaGreatDoor
