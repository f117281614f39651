/- The reference's number and scaled: the walks. -/
import Derived.Test.YtghnlhadohnenaaGreatDoorNumO
import Derived.Test.YtghnlhadohnenaaGreatDoorNumN
namespace Go.Proofs.YtghnlhadohnenaaGreatDoor
open Go.Shelf Go.RowKit Go.Proofs.YtghnlhadohnenaaGreatDoorW.PrintWords Go.Proofs.YtghnlhadohnenaaGreatDoorW.PrintLast Go.Proofs.YtghnlhadohnenaaGreatDoorW.PrintMore PDg
open Go.Lib (decDigits nDigits)
set_option linter.unusedVariables false
set_option linter.unusedSimpArgs false
set_option exponentiation.threshold 3000
theorem bt_nat (s : ByteArray) (i : Nat) (h : i < s.data.toList.length) : bt s (i : Int) = ((s.data.toList[i]'h).toNat : Int) := by
  unfold bt
  rw [dif_pos (by rw [Lib.size_eq]; simpa using h)]
  rfl
theorem numL_lt : ∀ (l : List UInt8) (i : Nat) (acc : Int), True := fun _ _ _ => trivial
theorem number_l0 (s : ByteArray) (hs : s.size ≤ 1000000) : ∀ (d i : Nat) (acc : Int), i + d = s.size → 0 ≤ acc → (i ≤ 16 → acc < 10 ^ i) → i ≤ 16 ∨ d = 0 →
    Ev (fun k => tithebarnref21_number.l0 k s acc (i : Int)) (match numL i acc (s.data.toList.drop i) with
      | some v => (v, decide (0 < s.data.toList.length))
      | none => (0, false)) := by
  have hsl := Lib.size_eq s
  intro d
  induction d with
  | zero =>
    intro i acc hi h0 hp _
    rw [List.drop_eq_nil_of_le (by omega)]
    refine Ev.step (f := fun _ => some (acc, decide (0 < s.data.toList.length))) (fun k => ?_) (Ev.now _)
    simp only [tithebarnref21_number.l0]
    rw [if_neg (by omega)]
    congr 2
    by_cases c : 0 < s.data.toList.length
    · rw [decide_eq_true c, decide_eq_true (by omega)]
    · rw [decide_eq_false c, decide_eq_false (by omega)]
  | succ d ih =>
    intro i acc hi h0 hp h16
    have hil : i < s.data.toList.length := by omega
    rw [List.drop_eq_getElem_cons hil]
    have hb := bt_nat s i hil
    generalize s.data.toList[i] = b at *
    have hb2 : b.toNat < 256 := b.toNat_lt
    unfold numL
    by_cases hd : isD b = false
    · rw [if_pos hd]
      refine Ev.step (f := fun _ => some (0, false)) (fun k => ?_) (Ev.now _)
      simp only [tithebarnref21_number.l0]
      rw [if_pos (by omega), if_pos (by omega), hb]
      have : ¬ (48 ≤ b.toNat ∧ b.toNat ≤ 57) := fun h => by
        rw [isD_iff.2 h] at hd
        cases hd
      by_cases q : (b.toNat : Int) < 48
      · rw [if_pos q]
      · rw [if_neg q, if_pos (by omega)]
    · rw [if_neg hd]
      have hd' : 48 ≤ b.toNat ∧ b.toNat ≤ 57 := isD_iff.1 (by cases h : isD b; exact absurd h hd; rfl)
      by_cases h5 : i > 15
      · rw [if_pos h5]
        refine Ev.step (f := fun _ => some (0, false)) (fun k => ?_) (Ev.now _)
        simp only [tithebarnref21_number.l0]
        rw [if_pos (by omega), if_pos (by omega), hb, if_neg (by omega), if_neg (by omega), if_pos (by omega)]
      · rw [if_neg h5]
        have hpw : (10 : Int) ^ i ≤ 10 ^ 15 := by
          have : (10 : Nat) ^ i ≤ 10 ^ 15 := Nat.pow_le_pow_right (by omega) (by omega)
          exact_mod_cast this
        have hps : (10 : Int) ^ (i + 1) = 10 ^ i * 10 := Int.pow_succ ..
        have h6' : (10 : Int) ^ 15 = 1000000000000000 := by decide
        have hac := hp (by omega)
        refine Ev.step (fun k => ?_) (ih (i + 1) (acc * 10 + ((b.toNat : Int) - 48)) (by omega) (by omega) (fun _ => by omega) (by omega))
        simp only [tithebarnref21_number.l0]
        rw [if_pos (by omega), if_pos (by omega), hb, if_neg (by omega), if_neg (by omega), if_neg (by omega), wrap_id (x := acc * 10) (by omega) (by omega), wrap_id (x := (i : Int) + 1) (by omega) (by omega), wrap_id (by omega) (by omega), show ((b.toNat : Int) - 48) % 256 = (b.toNat : Int) - 48 by omega]
        rfl
theorem number_any (s : ByteArray) (hs : s.size ≤ 1000000) (w : World) : Calls Tryz.prog 77 #[.string s] w fun e w' => e = .returned (.tuple #[.int .i64 (numF s.data.toList).1, .bool (numF s.data.toList).2]) ∧ Below w.heap.size w w' := by
  have h := number_l0 s hs s.size 0 0 (by omega) (by omega) (fun _ => by decide) (by omega)
  rw [List.drop_zero] at h
  have e : (match numL 0 0 s.data.toList with
      | some v => (v, decide (0 < s.data.toList.length))
      | none => (0, false)) = numF s.data.toList := rfl
  rw [e] at h
  obtain ⟨k, hk⟩ := Ev.rounds h
  refine (tithebarnref21_number.calls k s _ _ w hk).mono ?_
  rintro e w' ⟨h1, h2⟩
  exact ⟨h1, h2.below⟩
theorem nearest_num (s : Bool) (m : Nat) (p : Int) : ∃ r, Ieee.double.nearest s m p = wd s r ∧ r ≤ topR := by
  unfold Ieee.Format.nearest
  split
  · exact ⟨0, wd_word s 0, by decide⟩
  · exact ⟨_, wd_word s _, Nat.min_le_right _ _⟩
theorem num_word {s : Bool} {r : Nat} (h : r ≤ topR) : wd s r < 18446744073709551616 ∧ nanB (wd s r) = false := ⟨wd_lt (by unfold topR at h; omega), nan_wd h⟩
theorem mul_two_some {x : Nat} (hx : x < 18446744073709551616) (hn : nanB x = false) : ∃ r, floatBits .mul .f64 x 4611686018427387904 = some r ∧ r < 18446744073709551616 ∧ nanB r = false := by
  obtain ⟨s, a, rfl, ha, _⟩ := (word_cases hx).resolve_left (by rw [hn]; decide)
  have h2 := read_two
  unfold twoW at h2
  rcases read_of s ha with ⟨h1, e⟩ | ⟨h1, e⟩
  · obtain ⟨r, k1, k2⟩ := nearest_num (s ^^ false) (dm a * 4503599627370496) (-1074 + dp a + -51)
    refine ⟨_, ?_, (num_word (s := s ^^ false) k2).1, (num_word (s := s ^^ false) k2).2⟩
    show Ieee.double.mul (wd s a) 4611686018427387904 = _
    unfold Ieee.Format.mul
    rw [e, h2]
    show some (Ieee.double.nearest _ _ _) = _
    rw [k1]
  · refine ⟨wd (s ^^ false) topR, ?_, (num_word (Nat.le_refl _)).1, (num_word (Nat.le_refl _)).2⟩
    show Ieee.double.mul (wd s a) 4611686018427387904 = _
    unfold Ieee.Format.mul
    rw [e, h2]
    show some (Ieee.double.word _ topR) = _
    rw [wd_word]
theorem div_two_some {x : Nat} (hx : x < 18446744073709551616) (hn : nanB x = false) : ∃ r, floatBits .quo .f64 x 4611686018427387904 = some r ∧ r < 18446744073709551616 ∧ nanB r = false := by
  obtain ⟨s, a, rfl, ha, _⟩ := (word_cases hx).resolve_left (by rw [hn]; decide)
  have h2 := read_two
  unfold twoW at h2
  rcases read_of s ha with ⟨h1, e⟩ | ⟨h1, e⟩
  · have : ∃ m p, floatBits .quo .f64 (wd s a) 4611686018427387904 = some (Ieee.double.nearest (s ^^ false) m p) := by
      show ∃ m p, Ieee.double.div (wd s a) 4611686018427387904 = _
      unfold Ieee.Format.div
      rw [e, h2]
      exact ⟨_, _, rfl⟩
    obtain ⟨m, p, hmp⟩ := this
    obtain ⟨r, k1, k2⟩ := nearest_num (s ^^ false) m p
    rw [k1] at hmp
    exact ⟨_, hmp, (num_word k2).1, (num_word k2).2⟩
  · refine ⟨wd (s ^^ false) topR, ?_, (num_word (Nat.le_refl _)).1, (num_word (Nat.le_refl _)).2⟩
    show Ieee.double.div (wd s a) 4611686018427387904 = _
    unfold Ieee.Format.div
    rw [e, h2]
    show some (Ieee.double.word _ topR) = _
    rw [wd_word]
theorem AtJ.twice {m j a : Nat} (h : AtJ m j a) (hm : m < 9007199254740992) (ht : m * 2 ^ (j + 1) < 2 ^ 2098) : ∃ a', AtJ m (j + 1) a' ∧ floatBits .mul .f64 a 4611686018427387904 = some a' := by
  obtain ⟨a', k1, k2⟩ := rung_ex m (j + 1) hm ht
  refine ⟨a', ⟨k1, k2⟩, ?_⟩
  refine mul_exact false false a 4611686018427387904 a' h.top (by decide) k1 ?_
  rw [h.eq, k2, mg_two, Nat.mul_assoc, Nat.mul_assoc, ← Nat.pow_add, ← Nat.pow_add]
theorem AtJ.half {m j a : Nat} (h : AtJ m (j + 1) a) (hm : m < 9007199254740992) : ∃ a', AtJ m j a' ∧ floatBits .quo .f64 a 4611686018427387904 = some a' := by
  have hs : m * 2 ^ (j + 1) = m * 2 ^ j * 2 := by rw [Nat.mul_assoc, ← Nat.pow_succ]
  have ht : m * 2 ^ (j + 1) < 2 ^ 2098 := by
    rw [← h.eq, ← mg_top]
    exact mg_mono h.top
  obtain ⟨a', k1, k2⟩ := rung_ex m j hm (by omega)
  exact ⟨a', ⟨k1, k2⟩, div_two false a a' h.top k1 (by rw [h.eq, k2, hs])⟩
theorem AtJ.inj {m j a b : Nat} (h : AtJ m j a) (k : AtJ m j b) : a = b := mg_inj (by rw [h.eq, k.eq])
end Go.Proofs.YtghnlhadohnenaaGreatDoor
