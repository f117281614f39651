/- Plain: numbers' texts, and what is read of them. No program. -/
import Derived.Test.YtghnlhadohnenaaGreatDoorNumL
import Derived.Lib.AtoiAll
namespace Go.Proofs.YtghnlhadohnenaaGreatDoor
set_option exponentiation.threshold 3000
open Go.RowKit
open Go.Lib (decDigits nDigits)
set_option linter.unusedVariables false
set_option linter.unusedSimpArgs false
def isD (b : UInt8) : Bool := decide (48 ≤ b.toNat) && decide (b.toNat ≤ 57)
theorem isD_iff {b : UInt8} : isD b = true ↔ 48 ≤ b.toNat ∧ b.toNat ≤ 57 := by unfold isD; rw [Bool.and_eq_true, decide_eq_true_eq, decide_eq_true_eq]
def foldD (acc : Nat) : List UInt8 → Nat
  | [] => acc
  | c :: r => foldD (acc * 10 + (c.toNat - 48)) r
theorem foldD_snoc : ∀ (l : List UInt8) (acc : Nat) (b : UInt8), foldD acc (l ++ [b]) = foldD acc l * 10 + (b.toNat - 48)
  | [], _, _ => rfl
  | c :: r, acc, b => foldD_snoc r _ b
theorem foldD_ge : ∀ (l : List UInt8) (acc : Nat), acc ≤ foldD acc l
  | [], _ => Nat.le_refl _
  | c :: r, acc => by
    have := foldD_ge r (acc * 10 + (c.toNat - 48))
    show acc ≤ foldD (acc * 10 + (c.toNat - 48)) r
    omega
theorem dig_of {d : Nat} (h : d < 10) : (UInt8.ofNat (48 + d)).toNat = 48 + d := by
  rw [UInt8.toNat_ofNat']
  omega
theorem dec_one {u : Nat} (h : u < 10) (b : UInt8) (hb : b.toNat = 48 + u) : [b].all isD = true ∧ foldD 0 [b] = u ∧ (∃ c r, [b] = c :: r ∧ (1 ≤ u → c.toNat ≠ 48)) := by
  have h1 : isD b = true := isD_iff.2 (by omega)
  have h2 : foldD 0 [b] = 0 * 10 + (b.toNat - 48) := rfl
  exact ⟨by rw [List.all_cons, h1]; rfl, by rw [h2]; omega, b, [], rfl, fun h1 => by omega⟩
theorem dec_more {u : Nat} {l : List UInt8} (h : ¬ u < 10) (h1 : l.all isD = true) (h2 : foldD 0 l = u / 10) (h3 : ∃ c r, l = c :: r ∧ (1 ≤ u / 10 → c.toNat ≠ 48)) (b : UInt8) (hb : b.toNat = 48 + u % 10) :
    (l ++ [b]).all isD = true ∧ foldD 0 (l ++ [b]) = u ∧ (∃ c r, l ++ [b] = c :: r ∧ (1 ≤ u → c.toNat ≠ 48)) := by
  obtain ⟨c, r, rfl, h4⟩ := h3
  refine ⟨by rw [List.all_append, h1, List.all_cons, isD_iff.2 (by omega)]; rfl, by rw [foldD_snoc, h2, hb]; omega, c, r ++ [b], rfl, fun _ => h4 (by omega)⟩
theorem dec_facts (u : Nat) : (decDigits u).all isD = true ∧ foldD 0 (decDigits u) = u ∧ (∃ c r, decDigits u = c :: r ∧ (1 ≤ u → c.toNat ≠ 48)) := by
  induction u using Nat.strongRecOn with
  | _ u ih =>
    by_cases h : u < 10
    · rw [Lib.decDigits_one h]
      exact dec_one h _ (dig_of h)
    · rw [decDigits, dif_neg h]
      obtain ⟨h1, h2, h3⟩ := ih (u / 10) (by omega)
      exact dec_more h h1 h2 h3 _ (dig_of (d := u % 10) (by omega))
theorem nDig_le : ∀ (k u : Nat), u < 10 ^ (k + 1) → nDigits u ≤ k + 1
  | 0, u, h => by rw [Lib.nDigits_small (by simpa using h)]; omega
  | k + 1, u, h => by
    by_cases hu : u < 10
    · rw [Lib.nDigits_small hu]; omega
    · rw [Lib.nDigits_big hu]
      have := nDig_le k (u / 10) (by rw [Nat.pow_succ] at h; omega)
      omega
theorem parse_fold : ∀ (l : List UInt8) (acc : Nat), l.all isD = true → foldD acc l ≤ 10000000000000000 → Lib.parseUint10 acc l = .ok (foldD acc l)
  | [], _, _, _ => rfl
  | c :: r, acc, h, hb => by
    simp only [List.all_cons, Bool.and_eq_true] at h
    have h1 : 48 ≤ c.toNat ∧ c.toNat ≤ 57 := by simpa [isD] using h.1
    have h2 := foldD_ge r (acc * 10 + (c.toNat - 48))
    have hb' : foldD (acc * 10 + (c.toNat - 48)) r ≤ 10000000000000000 := hb
    unfold Lib.parseUint10
    rw [if_pos h1, if_neg (by omega), if_neg (by omega), parse_fold r _ h.2 hb']
    rfl
theorem dec_len16 {u : Nat} (h : u < 9007199254740992) : (decDigits u).length ≤ 16 := by
  rw [Lib.decDigits_length]
  exact nDig_le 15 u (by omega)
theorem mag_dec {u : Nat} (h : u < 9007199254740992) : Lib.parseMag (decDigits u) = .ok u := by
  obtain ⟨h1, h2, c, r, h3, h4⟩ := dec_facts u
  unfold Lib.parseMag
  rw [if_neg (by rw [h3]; simp), parse_fold _ _ h1 (by rw [h2]; omega), h2]
theorem atoi_itoa {x : Int} (h0 : -100000 ≤ x) (h1 : x ≤ 100000) : Lib.atoiAll (Lib.itoa x) = .ok x := by
  unfold Lib.itoa
  split
  · rename_i hn
    unfold Lib.atoiAll
    simp only
    rw [if_pos (by decide), mag_dec (by omega)]
    simp only
    rw [if_neg (by simp), if_neg (by omega), if_pos (by decide)]
    congr 1
    omega
  · rename_i hn
    obtain ⟨h1, h2, c, r, h3, h4⟩ := dec_facts x.toNat
    have hm := mag_dec (u := x.toNat) (by omega)
    rw [h3] at hm h1 ⊢
    have hc : 48 ≤ c.toNat ∧ c.toNat ≤ 57 := by
      simp only [List.all_cons, Bool.and_eq_true] at h1
      simpa [isD] using h1.1
    unfold Lib.atoiAll
    simp only
    rw [if_neg (by omega), hm]
    simp only
    rw [if_neg (by omega), if_neg (by omega), if_neg (by omega)]
    congr 1
    omega
theorem dec_no {u : Nat} (c : UInt8) (h1 : isD c = false) : c ∉ decDigits u := fun hu => by
  have := List.all_eq_true.1 (dec_facts u).1 c hu
  rw [this] at h1
  cases h1
/-- What a number's text looks like. -/
def WholeT (s : List UInt8) (y : Nat) : Prop := ∃ n : Nat, n < 9007199254740992 ∧ s = decDigits n ∧ y = rn n
def PartT (s : List UInt8) (y : Nat) : Prop := ∃ (m : Nat) (e : Int), m < 9007199254740992 ∧ 0 < m ∧ -1074 ≤ e ∧ e ≤ 1100 ∧ s = decDigits m ++ 112 :: Lib.itoa e ∧ y < topR ∧ (∃ t : Nat, (t : Int) = e + 1074 ∧ mg y = m * 2 ^ t)
theorem shapes {y : Nat} (hy : y ≤ topR) : (y = topR ∧ textR y = [105, 110, 102]) ∨ WholeT (textR y) y ∨ PartT (textR y) y := by
  by_cases c : y = topR
  · exact .inl ⟨c, by unfold textR; rw [if_pos c]⟩
  · by_cases d : y < bigR ∧ whB y = true
    · refine .inr (.inl ⟨qT y, qT_lt d.1, by unfold textR; rw [if_neg c, if_pos d], (rn_qT d.1 d.2).symm⟩)
    · have hpos : 0 < y := by
        rcases Nat.eq_zero_or_pos y with h | h
        · subst h
          exact absurd ⟨by decide, by decide +kernel⟩ d
        · exact h
      have hex := exp_in y hpos (by omega)
      have h1 := dm_lt y
      have h2 := dm_pos hpos
      obtain ⟨m, e, _⟩ := Lib.ctzFrom_spec 64 (dm y) h2 (by omega)
      have e2 : Lib.ctzFrom 64 (dm y) = tzM y := by unfold tzM Lib.ctz; rw [if_neg (by omega)]
      rw [e2] at e
      have e3 : oddM y = 2 * m + 1 := by
        unfold oddM
        rw [e, Nat.mul_comm, Nat.mul_div_cancel _ (Nat.two_pow_pos _)]
      refine .inr (.inr ⟨oddM y, expM y, odd_lt y, by omega, hex.1, hex.2, by unfold textR; rw [if_neg c, if_neg d], by omega, dp y + tzM y, by unfold expM; omega, ?_⟩)
      unfold mg
      rw [e3, Nat.pow_add, e]
      rw [Nat.mul_comm (2 ^ tzM y), Nat.mul_assoc, Nat.mul_comm (2 ^ tzM y)]
/-- The reference's number of digits. -/
def numL : Nat → Int → List UInt8 → Option Int
  | _, acc, [] => some acc
  | i, acc, b :: r => if isD b = false then none else if i > 15 then none else numL (i + 1) (acc * 10 + ((b.toNat : Int) - 48)) r
def numF (l : List UInt8) : Int × Bool := match numL 0 0 l with
  | some v => (v, decide (0 < l.length))
  | none => (0, false)
theorem numL_fold : ∀ (l : List UInt8) (i acc : Nat), l.all isD = true → i + l.length ≤ 16 → numL i (acc : Int) l = some (foldD acc l : Int)
  | [], i, acc, _, _ => rfl
  | b :: r, i, acc, h1, h2 => by
    simp only [List.all_cons, Bool.and_eq_true] at h1
    have hb : 48 ≤ b.toNat ∧ b.toNat ≤ 57 := by simpa [isD] using h1.1
    simp only [List.length_cons] at h2
    unfold numL
    rw [if_neg (by rw [h1.1]; simp), if_neg (by omega), show (acc : Int) * 10 + ((b.toNat : Int) - 48) = ((acc * 10 + (b.toNat - 48) : Nat) : Int) by omega, numL_fold r (i + 1) _ h1.2 (by omega)]
    rfl
theorem numF_dec {n : Nat} (h : n < 9007199254740992) : numF (decDigits n) = ((n : Int), true) := by
  obtain ⟨h1, h2, c, r, h3, h4⟩ := dec_facts n
  have := numL_fold (decDigits n) 0 0 h1 (by have := dec_len16 h; omega)
  rw [h2] at this
  unfold numF
  rw [show ((0 : Nat) : Int) = 0 from rfl] at this
  rw [this]
  simp only
  rw [decide_eq_true (by rw [h3]; simp)]
end Go.Proofs.YtghnlhadohnenaaGreatDoor
