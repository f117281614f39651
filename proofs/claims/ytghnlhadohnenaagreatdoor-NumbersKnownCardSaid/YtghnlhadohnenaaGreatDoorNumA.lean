/- Double words as whole numbers of the least unit: what a rung stands for, and the exact operations. No program. -/
import Derived.Laws.FloatArith
namespace Go.Proofs.YtghnlhadohnenaaGreatDoor
set_option exponentiation.threshold 3000
open Ieee
set_option linter.unusedVariables false
set_option linter.unusedSimpArgs false
/-- The digits of a rung, and how far they are shifted: its magnitude in units of 2^-1074. -/
def dm (r : Nat) : Nat := if r < 4503599627370496 then r else 4503599627370496 + r % 4503599627370496
def dp (r : Nat) : Nat := r / 4503599627370496 - 1
def mg (r : Nat) : Nat := dm r * 2 ^ dp r
/-- The rung of infinity. -/
def topR : Nat := 9218868437227405312
def wd (s : Bool) (r : Nat) : Nat := if s then 9223372036854775808 + r else r
theorem wd_word (s : Bool) (r : Nat) : double.word s r = wd s r := by
  unfold Format.word wd
  have : double.signWeight = 9223372036854775808 := by decide +kernel
  rw [this]
theorem read_num (s : Bool) (r : Nat) (h : r < topR) : double.read (wd s r) = .number s (dm r) (-1074 + dp r) := by
  unfold topR at h
  have e1 : double.signWeight = 9223372036854775808 := by decide +kernel
  have e2 : double.binade = 4503599627370496 := by decide +kernel
  have e3 : double.infRung = 9218868437227405312 := by decide +kernel
  have e4 : double.leastPlace = -1074 := by decide +kernel
  unfold Format.read wd dm dp
  rw [e1, e2, e3, e4]
  have a1 : (if s then 9223372036854775808 + r else r) / 9223372036854775808 % 2 = s.toNat := by cases s <;> simp <;> omega
  have a2 : (if s then 9223372036854775808 + r else r) % 9223372036854775808 = r := by cases s <;> simp <;> omega
  simp only [a1, a2]
  have a3 : (s.toNat == 1) = s := by cases s <;> rfl
  rw [a3]
  by_cases c : r < 4503599627370496
  · simp only [c, if_true]
    have : r / 4503599627370496 - 1 = 0 := by omega
    rw [this]
    rfl
  · simp only [c, if_false, h, if_true]
theorem read_inf (s : Bool) : double.read (wd s topR) = .infinity s := by cases s <;> decide +kernel
theorem read_nan (s : Bool) (r : Nat) (h : topR < r) (h2 : r < 9223372036854775808) : double.read (wd s r) = .nan s (r - topR) := by
  unfold topR at *
  have e1 : double.signWeight = 9223372036854775808 := by decide +kernel
  have e2 : double.binade = 4503599627370496 := by decide +kernel
  have e3 : double.infRung = 9218868437227405312 := by decide +kernel
  unfold Format.read wd
  rw [e1, e2, e3]
  have a1 : (if s then 9223372036854775808 + r else r) / 9223372036854775808 % 2 = s.toNat := by cases s <;> simp <;> omega
  have a2 : (if s then 9223372036854775808 + r else r) % 9223372036854775808 = r := by cases s <;> simp <;> omega
  simp only [a1, a2]
  have a3 : (s.toNat == 1) = s := by cases s <;> rfl
  rw [a3, if_neg (by omega), if_neg (by omega), if_neg (by omega)]
/-- A word is a sign and a rung. -/
theorem wd_cases (x : Nat) (h : x < 18446744073709551616) : ∃ s r, x = wd s r ∧ r < 9223372036854775808 := by
  by_cases c : x < 9223372036854775808
  · exact ⟨false, x, rfl, c⟩
  · exact ⟨true, x - 9223372036854775808, by unfold wd; simp; omega, by omega⟩
theorem dm_lt (r : Nat) : dm r < 9007199254740992 := by unfold dm; split <;> omega
theorem dm_pos {r : Nat} (h : 0 < r) : 0 < dm r := by unfold dm; split <;> omega
theorem mg_small {r : Nat} (h : r < 4503599627370496) : mg r = r := by
  unfold mg dm dp
  rw [if_pos h, show r / 4503599627370496 - 1 = 0 by omega]
  simp
theorem mg_zero : mg 0 = 0 := mg_small (by omega)
theorem mg_pos {r : Nat} (h : 0 < r) : 0 < mg r := Nat.mul_pos (dm_pos h) (Nat.two_pow_pos _)
theorem mg_lo {r : Nat} (h : 4503599627370496 ≤ r) : 2 ^ (52 + dp r) ≤ mg r := by
  unfold mg
  rw [Nat.pow_add]
  refine Nat.mul_le_mul_right _ ?_
  unfold dm
  rw [if_neg (by omega)]
  omega
theorem mg_hi (r : Nat) : mg r < 2 ^ (53 + dp r) := by
  unfold mg
  rw [Nat.pow_add]
  exact Nat.mul_lt_mul_of_pos_right (dm_lt r) (Nat.two_pow_pos _)
theorem mg_mono {a b : Nat} (h : a < b) : mg a < mg b := by
  by_cases c : b < 4503599627370496
  · rw [mg_small c, mg_small (by omega)]; exact h
  · by_cases d : a < 4503599627370496
    · rw [mg_small d]
      have := mg_lo (r := b) (by omega)
      have h2 : 2 ^ 52 ≤ 2 ^ (52 + dp b) := Nat.pow_le_pow_right (by omega) (by omega)
      omega
    · by_cases e : a / 4503599627370496 = b / 4503599627370496
      · have : dp a = dp b := by unfold dp; rw [e]
        unfold mg
        rw [this]
        refine Nat.mul_lt_mul_of_pos_right ?_ (Nat.two_pow_pos _)
        unfold dm
        rw [if_neg d, if_neg c]
        omega
      · have h1 := mg_hi a
        have h2 := mg_lo (r := b) (by omega)
        have h3 : 2 ^ (53 + dp a) ≤ 2 ^ (52 + dp b) := Nat.pow_le_pow_right (by omega) (by unfold dp; omega)
        omega
theorem mg_le {a b : Nat} (h : a ≤ b) : mg a ≤ mg b := by
  rcases Nat.lt_or_ge a b with c | c
  · exact Nat.le_of_lt (mg_mono c)
  · rw [show a = b by omega]; exact Nat.le_refl _
theorem mg_lt_iff {a b : Nat} : mg a < mg b ↔ a < b :=
  ⟨fun h => by rcases Nat.lt_or_ge a b with c | c; exact c; have := mg_le c; omega, mg_mono⟩
theorem mg_inj {a b : Nat} (h : mg a = mg b) : a = b := by
  rcases Nat.lt_trichotomy a b with c | c | c
  · have := mg_mono c; omega
  · exact c
  · have := mg_mono c; omega
theorem log2_of {n k : Nat} (h1 : 2 ^ k ≤ n) (h2 : n < 2 ^ (k + 1)) : n.log2 = k := by
  have h0 : n ≠ 0 := by have := Nat.two_pow_pos k; omega
  have a := Nat.log2_self_le h0
  have b := Nat.lt_log2_self (n := n)
  have c1 : n.log2 < k + 1 := by
    rcases Nat.lt_or_ge n.log2 (k + 1) with c | c
    · exact c
    · have := Nat.pow_le_pow_right (show 0 < 2 by omega) c; omega
  have c2 : k < n.log2 + 1 := by
    rcases Nat.lt_or_ge k (n.log2 + 1) with c | c
    · exact c
    · have := Nat.pow_le_pow_right (show 0 < 2 by omega) c; omega
  omega
theorem log2_shift {n : Nat} (h : n ≠ 0) (k : Nat) : (n * 2 ^ k).log2 = n.log2 + k := by
  refine log2_of ?_ ?_
  · rw [Nat.pow_add]
    exact Nat.mul_le_mul_right _ (Nat.log2_self_le h)
  · rw [show n.log2 + k + 1 = (n.log2 + 1) + k by omega, Nat.pow_add]
    exact Nat.mul_lt_mul_of_pos_right Nat.lt_log2_self (Nat.two_pow_pos _)
/-- A number that the format has is written as itself. -/
theorem nearest_pos (s : Bool) (mag : Nat) (place : Int) (r : Nat) (hm : mag ≠ 0) (hr : r < topR) (h : mag * 2 ^ (place + 1074).toNat = mg r * 2 ^ (-(place + 1074)).toNat) :
    double.nearest s mag place = wd s r := by
  have e2 : double.binade = 4503599627370496 := by decide +kernel
  have e3 : double.infRung = 9218868437227405312 := by decide +kernel
  have e4 : double.leastPlace = -1074 := by decide +kernel
  have e5 : (double.fractionBits : Int) = 52 := by decide +kernel
  have hr0 : 0 < r := by
    rcases Nat.eq_zero_or_pos r with c | c
    · subst c
      rw [mg_zero, Nat.zero_mul] at h
      have := Nat.mul_pos (Nat.pos_of_ne_zero hm) (Nat.two_pow_pos (place + 1074).toNat)
      omega
    · exact c
  have hd0 := dm_pos hr0
  have hlog : (mag.log2 : Int) + (place + 1074) = ((mg r).log2 : Int) := by
    have a := log2_shift hm (place + 1074).toNat
    have b := log2_shift (n := mg r) (by have := mg_pos hr0; omega) (-(place + 1074)).toNat
    rw [h] at a
    omega
  have hlast : max (place + (mag.log2 : Int) - 52) (-1074) = -1074 + (dp r : Int) := by
    by_cases c : r < 4503599627370496
    · have h1 : dp r = 0 := by unfold dp; omega
      rw [mg_small c] at hlog
      have h2 : r.log2 < 52 := (Nat.log2_lt (by omega)).2 (by omega)
      rw [h1]
      omega
    · have h2 : (mg r).log2 = 52 + dp r := log2_of (mg_lo (by omega)) (by have := mg_hi r; rw [show 52 + dp r + 1 = 53 + dp r by omega]; exact this)
      rw [h2] at hlog
      omega
  unfold Format.nearest
  rw [if_neg hm]
  simp only [e2, e3, e4, e5]
  rw [hlast, wd_word]
  have hk : Toward.even.cut s (mag <<< (place - (-1074 + (dp r : Int))).toNat) (-1074 + (dp r : Int) - place).toNat = dm r := by
    rcases Int.lt_or_le (place + 1074) (dp r) with c | c
    · obtain ⟨d, hd⟩ : ∃ d : Nat, (dp r : Int) = place + 1074 + d := ⟨((dp r : Int) - (place + 1074)).toNat, by omega⟩
      have e6 : (place - (-1074 + (dp r : Int))).toNat = 0 := by omega
      have e7 : (-1074 + (dp r : Int) - place).toNat = d := by omega
      have hmag : mag = dm r * 2 ^ d := by
        unfold mg at h
        rcases Int.lt_or_le (place + 1074) 0 with c2 | c2
        · rw [show (place + 1074).toNat = 0 by omega, Nat.pow_zero, Nat.mul_one, Nat.mul_assoc, ← Nat.pow_add] at h
          rw [h]
          congr 2
          omega
        · rw [show (-(place + 1074)).toNat = 0 by omega, Nat.pow_zero, Nat.mul_one, show dp r = d + (place + 1074).toNat by omega, Nat.pow_add, ← Nat.mul_assoc] at h
          exact Nat.eq_of_mul_eq_mul_right (Nat.two_pow_pos _) h
      rw [e6, e7, Nat.shiftLeft_zero]
      unfold Toward.cut
      have hmin : min d (mag.log2 + 2) = d := by
        have := log2_shift (n := dm r) (by omega) d
        rw [← hmag] at this
        omega
      simp only [hmin, Nat.one_shiftLeft]
      have q1 : mag / 2 ^ d = dm r := by rw [hmag]; exact Nat.mul_div_cancel _ (Nat.two_pow_pos _)
      have q2 : mag % 2 ^ d = 0 := by rw [hmag]; exact Nat.mul_mod_left _ _
      rw [q1, q2]
      have := Nat.two_pow_pos d
      have z1 : decide (2 ^ d < 2 * 0) = false := by simp
      have z2 : (2 ^ d == 2 * 0) = false := by simp
      rw [z1, z2]
      rfl
    · obtain ⟨d, hd⟩ : ∃ d : Nat, place + 1074 = (dp r : Int) + d := ⟨((place + 1074) - (dp r : Int)).toNat, by omega⟩
      have e6 : (place - (-1074 + (dp r : Int))).toNat = d := by omega
      have e7 : (-1074 + (dp r : Int) - place).toNat = 0 := by omega
      rw [e6, e7, Nat.shiftLeft_eq]
      have hmag : mag * 2 ^ d = dm r := by
        unfold mg at h
        rw [show (-(place + 1074)).toNat = 0 by omega, Nat.pow_zero, Nat.mul_one, show (place + 1074).toNat = d + dp r by omega, Nat.pow_add, ← Nat.mul_assoc] at h
        exact Nat.eq_of_mul_eq_mul_right (Nat.two_pow_pos _) h
      rw [hmag]
      unfold Toward.cut
      simp [Nat.mod_one]
  rw [hk, show (-1074 + (dp r : Int) - -1074).toNat = dp r by omega]
  have hq : dp r * 4503599627370496 + dm r = r := by
    unfold dp dm
    split <;> omega
  rw [hq, Nat.min_eq_left (by unfold topR at hr; omega)]
theorem nearest_exact (s : Bool) (mag : Nat) (place : Int) (r : Nat) (hr : r < topR) (h : mag * 2 ^ (place + 1074).toNat = mg r * 2 ^ (-(place + 1074)).toNat) :
    double.nearest s mag place = wd s r := by
  by_cases hm : mag = 0
  · subst hm
    rw [Nat.zero_mul] at h
    have : r = 0 := by
      rcases Nat.eq_zero_or_pos r with c | c
      · exact c
      · have := Nat.mul_pos (mg_pos c) (Nat.two_pow_pos (-(place + 1074)).toNat)
        omega
    subst this
    unfold Format.nearest
    rw [if_pos rfl, wd_word]
  · exact nearest_pos s mag place r hm hr h
/-- A magnitude with a sign. -/
def sg (s : Bool) (n : Nat) : Int := if s then -(n : Int) else n
theorem signed_eq (s : Bool) (m k : Nat) : signed s m k = sg s (m * 2 ^ k) := by
  unfold signed sg
  rw [Nat.shiftLeft_eq]
theorem sg_mul (s : Bool) (n k : Nat) : sg s (n * k) = sg s n * (k : Int) := by
  unfold sg
  cases s <;> simp [Int.neg_mul]
theorem sg_natAbs (s : Bool) (n : Nat) : (sg s n).natAbs = n := by unfold sg; cases s <;> simp
theorem compare_mul (a b : Int) (k : Nat) (h : 0 < k) : compare (a * k) (b * k) = compare a b := by
  have hk : (0 : Int) < k := by omega
  rcases Int.lt_trichotomy a b with c | c | c
  · rw [Int.compare_eq_lt.2 c, Int.compare_eq_lt.2 (Int.mul_lt_mul_of_pos_right c hk)]
  · subst c; simp
  · rw [Int.compare_eq_gt.2 c, Int.compare_eq_gt.2 (Int.mul_lt_mul_of_pos_right c hk)]
theorem order_num (s t : Bool) (a b : Nat) (ha : a < topR) (hb : b < topR) : double.order (wd s a) (wd t b) = some (compare (sg s (mg a)) (sg t (mg b))) := by
  unfold Format.order
  rw [read_num s a ha, read_num t b hb]
  simp only [Datum.order, signed_eq]
  obtain ⟨u, hu⟩ : ∃ u : Nat, min (dp a) (dp b) = u := ⟨_, rfl⟩
  have e1 : (-1074 + (dp a : Int) - min (-1074 + (dp a : Int)) (-1074 + (dp b : Int))).toNat = dp a - u := by omega
  have e2 : (-1074 + (dp b : Int) - min (-1074 + (dp a : Int)) (-1074 + (dp b : Int))).toNat = dp b - u := by omega
  rw [e1, e2]
  have f1 : sg s (mg a) = sg s (dm a * 2 ^ (dp a - u)) * ((2 ^ u : Nat) : Int) := by
    rw [← sg_mul, Nat.mul_assoc, ← Nat.pow_add, show dp a - u + u = dp a by omega]
    rfl
  have f2 : sg t (mg b) = sg t (dm b * 2 ^ (dp b - u)) * ((2 ^ u : Nat) : Int) := by
    rw [← sg_mul, Nat.mul_assoc, ← Nat.pow_add, show dp b - u + u = dp b by omega]
    rfl
  rw [f1, f2, compare_mul _ _ _ (Nat.two_pow_pos u)]
theorem write_num (s : Bool) (mag : Nat) (place : Int) : double.write (.number s mag place) = double.nearest s mag place := rfl
theorem mul_exact (s t : Bool) (a b r : Nat) (ha : a < topR) (hb : b < topR) (hr : r < topR) (h : mg a * mg b = mg r * 2 ^ 1074) : double.mul (wd s a) (wd t b) = some (wd (s ^^ t) r) := by
  unfold Format.mul
  rw [read_num s a ha, read_num t b hb]
  simp only [Datum.product, Option.map_some, write_num]
  congr 1
  refine nearest_exact _ _ _ _ hr ?_
  have hd : dm a * dm b * 2 ^ (dp a + dp b) = mg r * 2 ^ 1074 := by
    rw [← h]
    unfold mg
    rw [Nat.pow_add]
    simp only [Nat.mul_assoc, Nat.mul_left_comm, Nat.mul_comm]
  rcases Nat.lt_or_ge (dp a + dp b) 1074 with c | c
  · rw [show (-1074 + (dp a : Int) + (-1074 + (dp b : Int)) + 1074).toNat = 0 by omega, Nat.pow_zero, Nat.mul_one]
    have : (-(-1074 + (dp a : Int) + (-1074 + (dp b : Int)) + 1074)).toNat = 1074 - (dp a + dp b) := by omega
    rw [this]
    refine Nat.eq_of_mul_eq_mul_right (Nat.two_pow_pos (dp a + dp b)) ?_
    rw [hd, Nat.mul_assoc, ← Nat.pow_add, show 1074 - (dp a + dp b) + (dp a + dp b) = 1074 by omega]
  · rw [show (-(-1074 + (dp a : Int) + (-1074 + (dp b : Int)) + 1074)).toNat = 0 by omega, Nat.pow_zero, Nat.mul_one]
    have : (-1074 + (dp a : Int) + (-1074 + (dp b : Int)) + 1074).toNat = dp a + dp b - 1074 := by omega
    rw [this]
    refine Nat.eq_of_mul_eq_mul_right (Nat.two_pow_pos 1074) ?_
    rw [← hd, Nat.mul_assoc (dm a * dm b), ← Nat.pow_add, show dp a + dp b - 1074 + 1074 = dp a + dp b by omega]
/-- 2. -/
def twoW : Nat := 4611686018427387904
theorem read_two : double.read twoW = .number false 4503599627370496 (-51) := by decide +kernel
theorem div_two (s : Bool) (a r : Nat) (ha : a < topR) (hr : r < topR) (h : mg a = mg r * 2) : double.div (wd s a) twoW = some (wd s r) := by
  unfold Format.div
  rw [read_num s a ha, read_two]
  have hb : double.fractionBits = 52 := by decide +kernel
  have hl : (4503599627370496 : Nat).log2 = 52 := by decide +kernel
  simp only [Datum.quotient, Option.map_some, hb, hl, Nat.reduceAdd, show ¬ (4503599627370496 : Nat) = 0 by omega, if_false, Bool.xor_false, write_num]
  congr 1
  refine nearest_exact _ _ _ _ hr ?_
  have hlg : (dm a).log2 ≤ 52 := by
    by_cases c : dm a = 0
    · rw [c]; decide +kernel
    · have := (Nat.log2_lt (k := 53) c).2 (by have := dm_lt a; omega)
      omega
  obtain ⟨m, hm⟩ : ∃ m : Nat, 106 - (dm a).log2 = 52 + m := ⟨106 - (dm a).log2 - 52, by omega⟩
  rw [hm, Nat.shiftLeft_eq]
  have q : dm a * 2 ^ (52 + m) = dm a * 2 ^ m * 4503599627370496 := by rw [Nat.add_comm, Nat.pow_add, ← Nat.mul_assoc]
  rw [q, Nat.mul_div_cancel _ (by omega), Nat.mul_mod_left]
  simp only [bne_self_eq_false, Bool.toNat_false, Nat.add_zero]
  have hdd : dm a * 2 ^ dp a = mg r * 2 := h
  rcases Nat.eq_zero_or_pos (dp a) with c | c
  · rw [c, Nat.pow_zero, Nat.mul_one] at hdd
    rw [c, show (-1074 + ((0 : Nat) : Int) - -51 - ((52 + m : Nat) : Int) - 1 + 1074).toNat = 0 by omega, show (-(-1074 + ((0 : Nat) : Int) - -51 - ((52 + m : Nat) : Int) - 1 + 1074)).toNat = m + 2 by omega, Nat.pow_zero, Nat.mul_one, hdd, Nat.pow_add, Nat.mul_comm (mg r) 2, Nat.mul_assoc, Nat.mul_comm (mg r), show (2 : Nat) ^ 2 = 4 by rfl, Nat.mul_comm (2 ^ m) 4, Nat.mul_comm (mg r) (4 * 2 ^ m)]
    generalize 2 ^ m = z
    rw [Nat.mul_assoc 4, Nat.mul_comm z]
    omega
  · rcases Nat.lt_or_ge (dp a) (m + 2) with c2 | c2
    · rw [show (-1074 + (dp a : Int) - -51 - ((52 + m : Nat) : Int) - 1 + 1074).toNat = 0 by omega, show (-(-1074 + (dp a : Int) - -51 - ((52 + m : Nat) : Int) - 1 + 1074)).toNat = m + 2 - dp a by omega, Nat.pow_zero, Nat.mul_one]
      refine Nat.eq_of_mul_eq_mul_right (Nat.two_pow_pos (dp a)) ?_
      rw [Nat.mul_assoc (mg r), ← Nat.pow_add, show m + 2 - dp a + dp a = m + 1 + 1 by omega, Nat.pow_succ _ (m + 1), Nat.pow_succ _ m]
      have : 2 * (dm a * 2 ^ m) * 2 ^ dp a = 2 * 2 ^ m * (dm a * 2 ^ dp a) := by simp only [Nat.mul_assoc, Nat.mul_left_comm, Nat.mul_comm]
      rw [this, hdd]
      simp only [Nat.mul_assoc, Nat.mul_left_comm, Nat.mul_comm]
    · rw [show (-1074 + (dp a : Int) - -51 - ((52 + m : Nat) : Int) - 1 + 1074).toNat = dp a - (m + 2) by omega, show (-(-1074 + (dp a : Int) - -51 - ((52 + m : Nat) : Int) - 1 + 1074)).toNat = 0 by omega, Nat.pow_zero, Nat.mul_one]
      refine Nat.eq_of_mul_eq_mul_right (show 0 < 2 by omega) ?_
      rw [← hdd, show 2 ^ dp a = 2 ^ (dp a - (m + 2)) * (2 ^ m * 4) by rw [show (4 : Nat) = 2 ^ 2 by rfl, ← Nat.pow_add, ← Nat.pow_add]; congr 1; omega]
      have : ∀ x y z : Nat, 2 * (x * y) * z * 2 = x * (z * (y * 4)) := fun x y z => by
        rw [show x * (z * (y * 4)) = (x * y * z) * 4 by rw [← Nat.mul_assoc z, Nat.mul_comm z y, ← Nat.mul_assoc, ← Nat.mul_assoc], Nat.mul_assoc 2 (x * y) z]
        omega
      exact this _ _ _
theorem sum_num (s t : Bool) (a b : Nat) (ha : a < topR) (hb : b < topR) :
    ∃ (T : Int) (p : Nat), double.add (wd s a) (wd t b) = some (double.nearest (if T = 0 then s && t else T < 0) T.natAbs (-1074 + (p : Int))) ∧ T * ((2 ^ p : Nat) : Int) = sg s (mg a) + sg t (mg b) := by
  unfold Format.add
  rw [read_num s a ha, read_num t b hb]
  simp only [Datum.sum, Option.map_some, write_num, signed_eq]
  obtain ⟨u, hu⟩ : ∃ u : Nat, min (dp a) (dp b) = u := ⟨_, rfl⟩
  have e0 : min (-1074 + (dp a : Int)) (-1074 + (dp b : Int)) = -1074 + (u : Int) := by omega
  have e1 : (-1074 + (dp a : Int) - (-1074 + (u : Int))).toNat = dp a - u := by omega
  have e2 : (-1074 + (dp b : Int) - (-1074 + (u : Int))).toNat = dp b - u := by omega
  rw [e0, e1, e2]
  refine ⟨_, u, rfl, ?_⟩
  rw [Int.add_mul, ← sg_mul, ← sg_mul, Nat.mul_assoc, ← Nat.pow_add, Nat.mul_assoc, ← Nat.pow_add, show dp a - u + u = dp a by omega, show dp b - u + u = dp b by omega]
  rfl
/-- A sum that the format has. -/
theorem add_exact (s t u : Bool) (a b r : Nat) (ha : a < topR) (hb : b < topR) (hr : r < topR) (h0 : 0 < r) (h : sg s (mg a) + sg t (mg b) = sg u (mg r)) : double.add (wd s a) (wd t b) = some (wd u r) := by
  obtain ⟨T, p, e, hT⟩ := sum_num s t a b ha hb
  rw [e]
  rw [h] at hT
  have hp : (0 : Int) < ((2 ^ p : Nat) : Int) := by have := Nat.two_pow_pos p; omega
  have hm := mg_pos h0
  have hs : (if T = 0 then s && t else decide (T < 0)) = u := by
    cases u
    · have : 0 < T := by
        rcases Int.lt_or_le 0 T with c | c
        · exact c
        · unfold sg at hT
          simp at hT
          have h3 : T * ((2 ^ p : Nat) : Int) ≤ 0 := Int.mul_nonpos_of_nonpos_of_nonneg c (Int.le_of_lt hp)
          simp at h3
          omega
      rw [if_neg (by omega), decide_eq_false (by omega)]
    · have : T < 0 := by
        rcases Int.lt_or_le T 0 with c | c
        · exact c
        · unfold sg at hT
          simp at hT
          have h3 : 0 ≤ T * ((2 ^ p : Nat) : Int) := Int.mul_nonneg c (Int.le_of_lt hp)
          simp at h3
          omega
      rw [if_neg (by omega), decide_eq_true this]
  rw [hs]
  congr 1
  refine nearest_exact _ _ _ _ hr ?_
  rw [show (-1074 + (p : Int) + 1074).toNat = p by omega, show (-(-1074 + (p : Int) + 1074)).toNat = 0 by omega, Nat.pow_zero, Nat.mul_one]
  have := congrArg Int.natAbs hT
  rw [Int.natAbs_mul, sg_natAbs] at this
  simpa using this
theorem ofInt_exact (n : Int) (r : Nat) (hr : r < topR) (h : n.natAbs * 2 ^ 1074 = mg r) : floatOfInt .f64 n = wd (decide (n < 0)) r := by
  show double.nearest (decide (n < 0)) n.natAbs 0 = _
  refine nearest_exact _ _ _ _ hr ?_
  rw [show ((0 : Int) + 1074).toNat = 1074 by omega, show (-((0 : Int) + 1074)).toNat = 0 by omega, Nat.pow_zero, Nat.mul_one]
  exact h
theorem toInt_num (s : Bool) (a : Nat) (ha : a < topR) : (double.read (wd s a)).toInt .zero = some (sg s (mg a / 2 ^ 1074)) := by
  rw [read_num s a ha]
  simp only [Datum.toInt, Datum.integral, signed_eq, Nat.pow_zero, Nat.mul_one]
  congr 2
  unfold Toward.cut
  simp only [Nat.shiftLeft_eq, Nat.one_mul, Bool.toNat_false, Nat.add_zero]
  rcases Nat.lt_or_ge (dp a) 1074 with c | c
  · rw [show (-1074 + (dp a : Int)).toNat = 0 by omega, show (-(-1074 + (dp a : Int))).toNat = 1074 - dp a by omega, Nat.pow_zero, Nat.mul_one]
    have e : mg a / 2 ^ 1074 = dm a / 2 ^ (1074 - dp a) := by
      unfold mg
      rw [show 2 ^ 1074 = 2 ^ (1074 - dp a) * 2 ^ dp a by rw [← Nat.pow_add]; congr 1; omega, Nat.mul_div_mul_right _ _ (Nat.two_pow_pos _)]
    rw [e]
    rcases Nat.lt_or_ge (1074 - dp a) ((dm a).log2 + 2) with d | d
    · rw [Nat.min_eq_left (by omega)]
    · rw [Nat.min_eq_right d]
      have h1 : dm a < 2 ^ ((dm a).log2 + 2) := Nat.lt_of_lt_of_le Nat.lt_log2_self (Nat.pow_le_pow_right (by omega) (by omega))
      rw [Nat.div_eq_of_lt h1, Nat.div_eq_of_lt (Nat.lt_of_lt_of_le h1 (Nat.pow_le_pow_right (by omega) d))]
  · rw [show (-(-1074 + (dp a : Int))).toNat = 0 by omega, show (-1074 + (dp a : Int)).toNat = dp a - 1074 by omega, Nat.zero_min, Nat.pow_zero, Nat.div_one]
    unfold mg
    rw [show 2 ^ dp a = 2 ^ (dp a - 1074) * 2 ^ 1074 by rw [← Nat.pow_add]; congr 1; omega, ← Nat.mul_assoc, Nat.mul_div_cancel _ (Nat.two_pow_pos _)]
/-- There is a rung of each number of at most 53 digits that is not too great. -/
theorem rung_ex (M e : Nat) (hM : M < 9007199254740992) (he : M * 2 ^ e < 2 ^ 2098) : ∃ r, r < topR ∧ mg r = M * 2 ^ e := by
  by_cases h0 : M = 0
  · exact ⟨0, by decide, by rw [mg_zero, h0, Nat.zero_mul]⟩
  by_cases c : M * 2 ^ e < 4503599627370496
  · exact ⟨_, by unfold topR; omega, mg_small c⟩
  · have hl := log2_shift h0 e
    have h1 : M * 2 ^ e ≠ 0 := by omega
    have h2 := Nat.log2_self_le h1
    have h3 := Nat.lt_log2_self (n := M * 2 ^ e)
    have h4 : (M * 2 ^ e).log2 < 2098 := (Nat.log2_lt h1).2 he
    have h5 : M.log2 < 53 := (Nat.log2_lt h0).2 (by omega)
    have h6 : 52 ≤ (M * 2 ^ e).log2 := by
      rcases Nat.lt_or_ge (M * 2 ^ e).log2 52 with d | d
      · have := (Nat.log2_lt h1).1 d
        omega
      · exact d
    obtain ⟨k, hk⟩ : ∃ k, (M * 2 ^ e).log2 = 52 + k := ⟨(M * 2 ^ e).log2 - 52, by omega⟩
    rw [hk] at h2 h3
    have hke : k ≤ e := by omega
    obtain ⟨D, hD⟩ : ∃ D, M * 2 ^ e = D * 2 ^ k := ⟨M * 2 ^ (e - k), by rw [Nat.mul_assoc, ← Nat.pow_add]; congr 2; omega⟩
    rw [hD] at h2 h3 ⊢
    rw [Nat.pow_add] at h2
    rw [show 52 + k + 1 = 53 + k by omega, Nat.pow_add] at h3
    have g2 : 4503599627370496 ≤ D := Nat.le_of_mul_le_mul_right h2 (Nat.two_pow_pos k)
    have g3 : D < 9007199254740992 := Nat.lt_of_mul_lt_mul_right h3
    refine ⟨(k + 1) * 4503599627370496 + (D - 4503599627370496), by unfold topR; omega, ?_⟩
    unfold mg
    have a1 : dm ((k + 1) * 4503599627370496 + (D - 4503599627370496)) = D := by unfold dm; rw [if_neg (by omega)]; omega
    have a2 : dp ((k + 1) * 4503599627370496 + (D - 4503599627370496)) = k := by unfold dp; omega
    rw [a1, a2]
end Go.Proofs.YtghnlhadohnenaaGreatDoor
