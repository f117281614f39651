/- math.Ldexp at a whole number: plain lemmas. -/
import Derived.Test.YtghnlhadohnenaaGreatDoorNumQ
import Derived.Laws.BitsAllLaws
namespace Go.Proofs.YtghnlhadohnenaaGreatDoor
open Go.Shelf Go.RowKit Go.Proofs.YtghnlhadohnenaaGreatDoorW.PrintWords Go.Proofs.YtghnlhadohnenaaGreatDoorW.PrintLast Go.Proofs.YtghnlhadohnenaaGreatDoorW.PrintMore
set_option linter.unusedVariables false
set_option linter.unusedSimpArgs false
set_option exponentiation.threshold 3000
theorem mul_wd (s t : Bool) {a b : Nat} (ha : a < topR) (hb : b < topR) : ∃ r, floatBits .mul .f64 (wd s a) (wd t b) = some r ∧ r < 18446744073709551616 ∧ nanB r = false := by
  have e1 := read_num s a ha
  have e2 := read_num t b hb
  obtain ⟨r, k1, k2⟩ := nearest_num (s ^^ t) (dm a * dm b) (-1074 + dp a + (-1074 + dp b))
  refine ⟨_, ?_, (num_word (s := s ^^ t) k2).1, (num_word (s := s ^^ t) k2).2⟩
  show Ieee.double.mul (wd s a) (wd t b) = _
  unfold Ieee.Format.mul
  rw [e1, e2]
  show some (Ieee.double.nearest _ _ _) = _
  rw [k1]
theorem ld_pow {a b : Nat} (h : 2 ^ a < 2 ^ b) : a < b := (Nat.pow_lt_pow_iff_right (by omega)).1 h
theorem rn_norm {n : Nat} (h0 : 0 < n) (h : n < 9007199254740992) : ∃ E, E ≤ 52 ∧ rn n / 4503599627370496 = E + 1023 ∧ 4503599627370496 ≤ rn n ∧ dm (rn n) * 2 ^ (E + 1022) = n * 2 ^ 1074 := by
  obtain ⟨r1, r2, _⟩ := rn_facts (n := n) (by omega)
  generalize hz : (1074 : Nat) = Z at *
  have hn : n < 2 ^ 53 := h
  have hlo : 2 ^ Z ≤ n * 2 ^ Z := Nat.le_mul_of_pos_left _ h0
  have hhi : n * 2 ^ Z < 2 ^ (53 + Z) := by rw [Nat.pow_add]; exact Nat.mul_lt_mul_of_pos_right hn (Nat.two_pow_pos _)
  have hbig : 4503599627370496 ≤ rn n := by
    rcases Nat.lt_or_ge (rn n) 4503599627370496 with c | c
    · exfalso
      have e := mg_small c
      rw [e] at r2
      have : (2 : Nat) ^ 52 ≤ 2 ^ Z := Nat.pow_le_pow_right (by omega) (by omega)
      have h52 : (2 : Nat) ^ 52 = 4503599627370496 := by decide
      omega
    · exact c
  have k1 := mg_lo hbig
  have k2 := mg_hi (rn n)
  rw [r2] at k1 k2
  have a1 : 52 + dp (rn n) < 53 + Z := ld_pow (Nat.lt_of_le_of_lt k1 hhi)
  have a2 : Z < 53 + dp (rn n) := ld_pow (Nat.lt_of_le_of_lt hlo k2)
  refine ⟨dp (rn n) - 1022, by omega, ?_, hbig, ?_⟩
  · have : 0 < rn n / 4503599627370496 := Nat.div_pos hbig (by omega)
    unfold dp at *
    omega
  · rw [show dp (rn n) - 1022 + 1022 = dp (rn n) by omega]
    exact r2
theorem ld_word {a J : Nat} (ha : 4503599627370496 ≤ a) (h1 : 1 ≤ J) (h2 : J ≤ 2046) : J * 4503599627370496 + a % 4503599627370496 < topR ∧ mg (J * 4503599627370496 + a % 4503599627370496) = dm a * 2 ^ (J - 1) := by
  have hm : a % 4503599627370496 < 4503599627370496 := Nat.mod_lt _ (by omega)
  refine ⟨by unfold topR; omega, ?_⟩
  unfold mg
  have e1 : dm (J * 4503599627370496 + a % 4503599627370496) = dm a := by
    unfold dm
    rw [if_neg (by omega), if_neg (by omega)]
    omega
  have e2 : dp (J * 4503599627370496 + a % 4503599627370496) = J - 1 := by unfold dp; omega
  rw [e1, e2]
theorem andNot52 (a : Nat) (h : a < 9223372036854775808) : bits .andNot .u64 (a : Int) 9218868437227405312 = ((a % 4503599627370496 : Nat) : Int) := by
  have h1 := u64_andNot_nat a 9218868437227405312 (by omega) (by omega)
  have e : a &&& (18446744073709551615 - 9218868437227405312) = a % 4503599627370496 := by
    have k1 : a &&& (18446744073709551615 - 9218868437227405312) ≤ a := Nat.and_le_left
    have k2 : (a &&& (18446744073709551615 - 9218868437227405312)) % 2 ^ 63 = a % 2 ^ 63 &&& (18446744073709551615 - 9218868437227405312) % 2 ^ 63 := Nat.and_mod_two_pow ..
    rw [Nat.mod_eq_of_lt (by omega), Nat.mod_eq_of_lt (a := a) (by omega), show (18446744073709551615 - 9218868437227405312) % 2 ^ 63 = 2 ^ 52 - 1 by decide, Nat.and_two_pow_sub_one_eq_mod] at k2
    exact k2
  rw [e] at h1
  exact h1
theorem orJ (m J : Nat) (h : m < 4503599627370496) (hJ : J ≤ 2046) : bits .or .u64 (m : Int) ((J * 4503599627370496 : Nat) : Int) = ((J * 4503599627370496 + m : Nat) : Int) := by
  have h1 := u64_or_nat m (J * 4503599627370496) (by omega) (by omega)
  have h2 := Nat.two_pow_add_eq_or_of_lt (i := 52) (b := m) (by omega) J
  rw [Nat.or_comm] at h1
  rw [show 2 ^ 52 * J = J * 4503599627370496 by omega] at h2
  rw [h2]
  exact h1
theorem i64_and2047 (n : Int) : bits .and .i64 n 2047 = n % 2048 := by
  have h127 : (BitVec.ofInt 64 2047).toNat = 2 ^ 11 - 1 := by decide
  have key : (BitVec.ofInt 64 n &&& BitVec.ofInt 64 2047).toNat = (n % ((2 ^ 64 : Nat) : Int)).toNat % 2 ^ 11 := by
    rw [BitVec.toNat_and, BitVec.toNat_ofInt, h127, Nat.and_two_pow_sub_one_eq_mod]
  show IntKind.i64.wrap ((BitVec.ofInt 64 n &&& BitVec.ofInt 64 2047).toNat : Nat) = n % 2048
  rw [key, IntKind.wrap_i64]
  omega
theorem and2047 (q : Nat) (h : q < 2048) : bits .and .i64 (q : Int) 2047 = (q : Int) := by
  revert q
  intro q h
  have := i64_and2047 (q : Int)
  rw [this]
  omega
theorem ld_over {n : Nat} {k : Int} {E r : Nat} (he : dm (rn n) * 2 ^ (E + 1022) = n * 2 ^ 1074) (hb : 4503599627370496 ≤ rn n) (hk : 1023 < k + E) (hE : E ≤ 52) : Scale n k r := by
  intro M t y h1 h2 h3 h4 h5
  exfalso
  have hM : M = n := by omega
  subst hM
  obtain ⟨u, hu⟩ : ∃ u : Nat, k = (u : Int) := ⟨k.toNat, by omega⟩
  have ht : t = 1074 + u := by omega
  have k1 : mg y = dm (rn M) * 2 ^ (E + 1022 + u) := by rw [h5, ht, Nat.pow_add, ← Nat.mul_assoc, ← he, Nat.mul_assoc, ← Nat.pow_add]
  have k2 := mg_mono h3
  rw [mg_top, k1] at k2
  have k3 : 2 ^ 52 ≤ dm (rn M) := by unfold dm; rw [if_neg (by omega)]; omega
  have k4 : 2 ^ (52 + (E + 1022 + u)) ≤ dm (rn M) * 2 ^ (E + 1022 + u) := by rw [Nat.pow_add]; exact Nat.mul_le_mul_right _ k3
  have k5 := ld_pow (Nat.lt_of_le_of_lt k4 k2)
  omega
theorem ld_under {n : Nat} {k : Int} {E r : Nat} (hk : k + E < -1075) : Scale n k r := by
  intro M t y h1 h2 h3 h4 h5
  omega
theorem ld_normal {n : Nat} {k : Int} {E J : Nat} (he : dm (rn n) * 2 ^ (E + 1022) = n * 2 ^ 1074) (hb : 4503599627370496 ≤ rn n) (hJ : (J : Int) = k + E + 1023) (h1 : 1 ≤ J) (h2 : J ≤ 2046) : Scale n k (J * 4503599627370496 + rn n % 4503599627370496) := by
  intro M t y h3 h4 h5 h6 h7
  have hM : M = n := by omega
  subst hM
  obtain ⟨k1, k2⟩ := ld_word hb h1 h2
  refine mg_inj ?_
  rw [k2, h7]
  have e : ∀ p q : Nat, t + q = 1074 + p → J - 1 + q = E + 1022 + p → dm (rn M) * 2 ^ (J - 1) * 2 ^ q = M * 2 ^ t * 2 ^ q := fun p q q1 q2 => by
    rw [Nat.mul_assoc, ← Nat.pow_add, q2, Nat.mul_assoc M, ← Nat.pow_add, q1, Nat.pow_add, ← Nat.mul_assoc, he, Nat.pow_add, Nat.mul_assoc]
  rcases Int.le_total 0 k with c | c
  · have := e k.toNat 0 (by omega) (by omega)
    rwa [Nat.pow_zero, Nat.mul_one, Nat.mul_one] at this
  · exact Nat.eq_of_mul_eq_mul_right (Nat.two_pow_pos _) (e 0 (-k).toNat (by omega) (by omega))
theorem mg_half53 : mg 4368491638549381120 = 2 ^ 1021 := by decide +kernel
theorem ld_denormal {n : Nat} {k : Int} {E J r : Nat} (he : dm (rn n) * 2 ^ (E + 1022) = n * 2 ^ 1074) (hb : 4503599627370496 ≤ rn n) (hJ : (J : Int) = k + E + 53 + 1023) (h1 : 1 ≤ J) (h2 : J ≤ 2046) (hr : floatBits .mul .f64 4368491638549381120 (J * 4503599627370496 + rn n % 4503599627370496) = some r) : Scale n k r := by
  intro M t y h3 h4 h5 h6 h7
  have hM : M = n := by omega
  subst hM
  obtain ⟨k1, k2⟩ := ld_word hb h1 h2
  have := mul_exact false false 4368491638549381120 (J * 4503599627370496 + rn M % 4503599627370496) y (by decide) k1 h5 (by
    rw [mg_half53, k2, h7]
    have e : 1021 + (J - 1) + 1022 + E = E + 1022 + t + (1021 + (J - 1) - t) := by omega
    have e2 : 1021 + (J - 1) = E + 1022 + t := by omega
    calc 2 ^ 1021 * (dm (rn M) * 2 ^ (J - 1)) = dm (rn M) * 2 ^ (1021 + (J - 1)) := by rw [Nat.pow_add, Nat.mul_left_comm]
      _ = dm (rn M) * 2 ^ (E + 1022) * 2 ^ t := by rw [e2, Nat.pow_add, Nat.mul_assoc]
      _ = M * 2 ^ 1074 * 2 ^ t := by rw [he]
      _ = M * 2 ^ t * 2 ^ 1074 := Nat.mul_right_comm ..)
  have q : floatBits .mul .f64 (wd false 4368491638549381120) (wd false (J * 4503599627370496 + rn M % 4503599627370496)) = some r := hr
  have q2 : floatBits .mul .f64 (wd false 4368491638549381120) (wd false (J * 4503599627370496 + rn M % 4503599627370496)) = some (wd (false ^^ false) y) := this
  rw [q] at q2
  exact Option.some.inj q2
theorem ld_zero {k : Int} : Scale 0 k 0 := by
  intro M t y h1 h2 h3 h4 h5
  have hM : M = 0 := by omega
  subst hM
  refine mg_inj ?_
  rw [h5, mg_zero, Nat.zero_mul]
end Go.Proofs.YtghnlhadohnenaaGreatDoor
