/- The reference's value: plain lemmas. -/
import Derived.Test.YtghnlhadohnenaaGreatDoorNumQ
namespace Go.Proofs.YtghnlhadohnenaaGreatDoor
set_option exponentiation.threshold 3000
open Go.Shelf Go.RowKit Go.Proofs.YtghnlhadohnenaaGreatDoorW.PrintWords Go.Proofs.YtghnlhadohnenaaGreatDoorW.PrintLast Go.Proofs.YtghnlhadohnenaaGreatDoorW.PrintMore
open Go.Lib (decDigits nDigits)
theorem zero_quoR : floatBits .quo .f64 0 0 = none := by decide +kernel
set_option linter.unusedVariables false
set_option linter.unusedSimpArgs false
/-- What is read of a text: whose text it is. -/
def ValW (s : List UInt8) (r : Nat) : Prop := r < 18446744073709551616 ∧ ∀ y, y < 18446744073709551616 → textW y = s → r = y ∨ (nanB r = true ∧ nanB y = true)
theorem headR {y : Nat} (hy : y ≤ topR) : ∃ c l, textR y = c :: l ∧ (c = 105 ∨ isD c = true) := by
  rcases shapes hy with ⟨_, e⟩ | ⟨n, _, e, _⟩ | ⟨m, e, _, _, _, _, e2, _, _⟩
  · exact ⟨105, [110, 102], e, .inl rfl⟩
  · obtain ⟨h1, _, c, r, h3, _⟩ := dec_facts n
    rw [h3] at h1
    simp only [List.all_cons, Bool.and_eq_true] at h1
    exact ⟨c, r, by rw [e, h3], .inr h1.1⟩
  · obtain ⟨h1, _, c, r, h3, _⟩ := dec_facts m
    rw [h3] at h1
    simp only [List.all_cons, Bool.and_eq_true] at h1
    exact ⟨c, r ++ 112 :: Lib.itoa e, by rw [e2, h3]; rfl, .inr h1.1⟩
theorem rk_top {y : Nat} (hn : nanB y = false) : rk y ≤ topR := by unfold nanB at hn; have := of_decide_eq_false hn; omega
theorem text_nan {y : Nat} (h : textW y = [110, 97, 110]) : nanB y = true := by
  cases hn : nanB y with
  | true => rfl
  | false =>
    obtain ⟨c, l, e, hc⟩ := headR (rk_top hn)
    unfold textW at h
    rw [hn] at h
    simp only [Bool.false_eq_true, if_false] at h
    rw [e] at h
    split at h
    · simp at h
    · simp at h
      rcases hc with hc | hc
      · rw [h.1] at hc; revert hc; decide
      · rw [h.1] at hc; revert hc; decide
theorem text_neg {y : Nat} {t : List UInt8} (h : textW y = 45 :: t) : nanB y = false ∧ sb y = true ∧ textR (rk y) = t := by
  cases hn : nanB y with
  | true =>
    unfold textW at h
    rw [hn] at h
    simp at h
  | false =>
    obtain ⟨c, l, e, hc⟩ := headR (rk_top hn)
    unfold textW at h
    rw [hn] at h
    simp only [Bool.false_eq_true, if_false] at h
    cases hs : sb y with
    | true =>
      rw [hs] at h
      simp only [if_true] at h
      exact ⟨rfl, rfl, (List.cons.inj h).2⟩
    | false =>
      rw [hs, e] at h
      simp at h
      rcases hc with hc | hc
      · rw [h.1] at hc; exact absurd hc (by decide)
      · rw [h.1] at hc; exact absurd hc (by decide)
/-- A text that begins with no sign and is not nan is a positive word's. -/
theorem text_pos {y : Nat} {s : List UInt8} (hy : y < 18446744073709551616) (h : textW y = s) (h1 : s ≠ [110, 97, 110]) (h2 : ∀ t, s ≠ 45 :: t) : y ≤ topR ∧ textR y = s := by
  cases hn : nanB y with
  | true =>
    unfold textW at h
    rw [hn] at h
    exact absurd h.symm h1
  | false =>
    cases hs : sb y with
    | true =>
      unfold textW at h
      rw [hn, hs] at h
      exact absurd h.symm (h2 _)
    | false =>
      have hw := wd_eq hy
      rw [hs] at hw
      have he : y = rk y := hw
      unfold textW at h
      rw [hn, hs] at h
      have ht := rk_top hn
      rw [← he] at ht h
      exact ⟨ht, h⟩
theorem text_inf {y : Nat} (hy : y < 18446744073709551616) (h : textW y = [105, 110, 102]) : topR = y := by
  obtain ⟨h1, h2⟩ := text_pos hy h (by decide) (fun t => by simp)
  rcases shapes h1 with ⟨e, _⟩ | ⟨n, _, e, _⟩ | ⟨m, e, _, _, _, _, e2, _, _⟩
  · exact e.symm
  · exfalso
    obtain ⟨k1, _⟩ := dec_facts n
    rw [← e, h2] at k1
    exact absurd k1 (by decide)
  · exfalso
    obtain ⟨k1, _, c, r, k3, _⟩ := dec_facts m
    rw [h2, k3] at e2
    rw [k3] at k1
    simp only [List.cons_append, List.cons.injEq] at e2
    simp only [List.all_cons, Bool.and_eq_true] at k1
    rw [← e2.1] at k1
    exact absurd k1.1 (by decide)
/-- Where the first p stands. -/
def AtP (l : List UInt8) (i : Nat) : Prop := i ≤ l.length ∧ (112 : UInt8) ∉ l.take i ∧ (i < l.length → l[i]? = some 112)
theorem atP_no {l : List UInt8} {i : Nat} (h : AtP l i) (hn : (112 : UInt8) ∉ l) : i = l.length := by
  rcases Nat.lt_or_ge i l.length with c | c
  · exact absurd (List.mem_of_getElem? (h.2.2 c)) hn
  · exact Nat.le_antisymm h.1 c
theorem atP_cut {a b : List UInt8} {i : Nat} (h : AtP (a ++ 112 :: b) i) (hn : (112 : UInt8) ∉ a) : i = a.length := by
  obtain ⟨h1, h2, h3⟩ := h
  rcases Nat.lt_trichotomy i a.length with c | c | c
  · exfalso
    have := h3 (by rw [List.length_append]; omega)
    rw [List.getElem?_append_left c] at this
    exact hn (List.mem_of_getElem? this)
  · exact c
  · exfalso
    apply h2
    rw [List.take_append]
    refine List.mem_append.2 (.inr ?_)
    obtain ⟨d, hd⟩ : ∃ d, i - a.length = d + 1 := ⟨i - a.length - 1, by omega⟩
    rw [hd, List.take_succ_cons]
    exact List.mem_cons_self ..
theorem itoa_head (e : Int) : (e < 0 ∧ Lib.itoa e = 45 :: decDigits e.natAbs) ∨ (0 ≤ e ∧ Lib.itoa e = decDigits e.toNat) := by
  unfold Lib.itoa
  by_cases h : e < 0
  · exact .inl ⟨h, if_pos h⟩
  · exact .inr ⟨by omega, if_neg h⟩
theorem numL_bound : ∀ (l : List UInt8) (i : Nat) (acc v : Int), numL i acc l = some v → 0 ≤ acc → i ≤ 16 → acc < 10 ^ i → 0 ≤ v ∧ v < 10 ^ 16
  | [], i, acc, v, h, h0, hi, hp => by
    simp only [numL, Option.some.injEq] at h
    subst h
    have : (10 : Nat) ^ i ≤ 10 ^ 16 := Nat.pow_le_pow_right (by omega) hi
    have h2 : (10 : Int) ^ i ≤ 10 ^ 16 := by exact_mod_cast this
    omega
  | b :: r, i, acc, v, h, h0, hi, hp => by
    unfold numL at h
    split at h
    · cases h
    · rename_i hd
      have hd' : 48 ≤ b.toNat ∧ b.toNat ≤ 57 := isD_iff.1 (by cases h : isD b; exact absurd h hd; rfl)
      split at h
      · cases h
      · rename_i h5
        have hps : (10 : Int) ^ (i + 1) = 10 ^ i * 10 := Int.pow_succ ..
        exact numL_bound r (i + 1) _ v h (by omega) (by omega) (by omega)
theorem numF_bound (l : List UInt8) : 0 ≤ (numF l).1 ∧ (numF l).1 < 10000000000000000 := by
  unfold numF
  cases h : numL 0 0 l with
  | none => exact ⟨Int.le_refl 0, (by decide : (0 : Int) < 10000000000000000)⟩
  | some v =>
    have := numL_bound l 0 0 v h (by omega) (by omega) (by decide)
    exact this
theorem val_first {l : List UInt8} {i : Nat} (hA : AtP l i) (h1 : l ≠ [110, 97, 110]) (h2 : ∀ t, l ≠ 45 :: t) (h3 : l ≠ [105, 110, 102]) (hc : (numF (l.take i)).2 = false ∨ i = l.length) (x : Nat) (hx : x < 18446744073709551616) (he : floatOfInt .f64 (numF (l.take i)).1 = x) : ValW l x := by
  refine ⟨hx, fun y hy ht => .inl ?_⟩
  obtain ⟨k1, k2⟩ := text_pos hy ht h1 h2
  rcases shapes k1 with ⟨_, e⟩ | ⟨n, hn, e, ey⟩ | ⟨m, e, hm, _, _, _, e2, _, _⟩
  · exact absurd (k2.symm.trans e) h3
  · rw [k2] at e
    have hi := atP_no hA (by rw [e]; exact dec_no 112 (by decide))
    rw [hi, List.take_length, e, numF_dec hn] at he
    obtain ⟨r1, r2, r3⟩ := rn_facts (n := n) (by omega)
    rw [ey, ← he, r3 _ (by simp), decide_eq_false (by simp)]
    rfl
  · exfalso
    rw [k2] at e2
    have hi := atP_cut (by rw [← e2]; exact hA) (dec_no (u := m) 112 (by decide))
    have ht2 : l.take i = decDigits m := by rw [hi, e2, List.take_left]
    rw [ht2, numF_dec hm] at hc
    rcases hc with hc | hc
    · cases hc
    · rw [hi, e2, List.length_append, List.length_cons] at hc
      omega
theorem val_second {l : List UInt8} {i : Nat} (hA : AtP l i) (hi : i < l.length) (h1 : l ≠ [110, 97, 110]) (h2 : ∀ t, l ≠ 45 :: t) (h3 : l ≠ [105, 110, 102]) {y : Nat} (hy : y < 18446744073709551616) (ht : textW y = l) :
    ∃ (m : Nat) (e : Int), m < 9007199254740992 ∧ -1074 ≤ e ∧ e ≤ 1100 ∧ l.take i = decDigits m ∧ l.drop (i + 1) = Lib.itoa e ∧ y < topR ∧ (∃ t : Nat, (t : Int) = e + 1074 ∧ mg y = m * 2 ^ t) := by
  obtain ⟨k1, k2⟩ := text_pos hy ht h1 h2
  rcases shapes k1 with ⟨_, e⟩ | ⟨n, hn, e, ey⟩ | ⟨m, e, hm, _, he1, he2, e2, hyt, t, ht1, ht2⟩
  · exact absurd (k2.symm.trans e) h3
  · rw [k2] at e
    have := atP_no hA (by rw [e]; exact dec_no 112 (by decide))
    omega
  · rw [k2] at e2
    have hia := atP_cut (by rw [← e2]; exact hA) (dec_no (u := m) 112 (by decide))
    refine ⟨m, e, hm, he1, he2, by rw [hia, e2, List.take_left], ?_, hyt, t, ht1, ht2⟩
    rw [hia, e2, List.drop_append]
    rw [show (decDigits m).length + 1 - (decDigits m).length = 1 by omega, List.drop_eq_nil_of_le (by omega)]
    rfl
theorem ext_tail (s : ByteArray) : (s.extract 1 s.size).data.toList = s.data.toList.drop 1 := by
  have := Lib.size_eq s
  rw [ByteArray.data_extract, Array.toList_extract, List.extract_eq_take_drop]
  rw [List.take_of_length_le (by rw [List.length_drop]; omega)]
theorem ext_take (s : ByteArray) (i : Nat) : (s.extract 0 i).data.toList = s.data.toList.take i := by
  rw [ByteArray.data_extract, Array.toList_extract, List.extract_eq_take_drop]
  simp
theorem cons_of {s : ByteArray} (hp : 0 < s.size) (h : bt s 0 = 45) : s.data.toList = 45 :: (s.extract 1 s.size).data.toList := by
  have hsl := Lib.size_eq s
  have hil : 0 < s.data.toList.length := by omega
  have hb := bt_nat s 0 hil
  rw [ext_tail]
  have e : s.data.toList = s.data.toList[0] :: s.data.toList.drop 1 := by
    have := List.drop_eq_getElem_cons hil
    rwa [List.drop_zero] at this
  have h2 : s.data.toList[0].toNat = 45 := by
    have : ((s.data.toList[0].toNat : Nat) : Int) = 45 := by rw [← hb]; exact h
    omega
  have h3 : s.data.toList[0] = 45 := UInt8.toNat_inj.1 h2
  rw [h3] at e
  exact e
/-- The part behind the p, with a sign. -/
theorem val_neg {l : List UInt8} {i : Nat} (hA : AtP l i) (hi : i < l.length) (h1 : l ≠ [110, 97, 110]) (h2 : ∀ t, l ≠ 45 :: t) (h3 : l ≠ [105, 110, 102]) {b : UInt8} {r : List UInt8} (hD : l.drop (i + 1) = b :: r) (hb : b = 45) :
    ((numF r).2 = false ∨ 1200 < (numF r).1 → ∀ y, y < 18446744073709551616 → textW y = l → False) ∧ (∀ x, Scale (numF (l.take i)).1 (-(numF r).1) x → ∀ y, y < 18446744073709551616 → textW y = l → x = y) := by
  have key : ∀ y, y < 18446744073709551616 → textW y = l → ∃ (m n : Nat) (e : Int), (numF (l.take i)).1 = m ∧ m < 9007199254740992 ∧ numF r = ((n : Int), true) ∧ e = -(n : Int) ∧ n ≤ 1200 ∧ y < topR ∧ (∃ t : Nat, (t : Int) = e + 1074 ∧ mg y = m * 2 ^ t) := by
    intro y hy ht
    obtain ⟨m, e, hm, he1, he2, ht2, hd2, hyt, t, k1, k2⟩ := val_second hA hi h1 h2 h3 hy ht
    rw [hD, hb] at hd2
    rcases itoa_head e with ⟨he, e3⟩ | ⟨he, e3⟩
    · rw [e3] at hd2
      have hr : r = decDigits e.natAbs := (List.cons.inj hd2).2
      refine ⟨m, e.natAbs, e, by rw [ht2, numF_dec hm], hm, by rw [hr, numF_dec (by omega)], by omega, by omega, hyt, t, k1, k2⟩
    · exfalso
      obtain ⟨q1, _, c, r', q3, _⟩ := dec_facts e.toNat
      rw [e3, q3] at hd2
      rw [q3] at q1
      simp only [List.all_cons, Bool.and_eq_true] at q1
      rw [← (List.cons.inj hd2).1] at q1
      exact absurd q1.1 (by decide)
  refine ⟨fun hc y hy ht => ?_, fun x hx y hy ht => ?_⟩
  · obtain ⟨m, n, e, _, _, k3, _, k5, _⟩ := key y hy ht
    rw [k3] at hc
    rcases hc with hc | hc
    · cases hc
    · simp only at hc; omega
  · obtain ⟨m, n, e, k1, k2, k3, k4, k5, k6, t, k7, k8⟩ := key y hy ht
    rw [k3] at hx
    exact hx m t y k1 k2 k6 (by simp only; omega) k8
theorem val_pos {l : List UInt8} {i : Nat} (hA : AtP l i) (hi : i < l.length) (h1 : l ≠ [110, 97, 110]) (h2 : ∀ t, l ≠ 45 :: t) (h3 : l ≠ [105, 110, 102]) (hD : ∀ r, l.drop (i + 1) ≠ 45 :: r) :
    ((numF (l.drop (i + 1))).2 = false ∨ 1200 < (numF (l.drop (i + 1))).1 → ∀ y, y < 18446744073709551616 → textW y = l → False) ∧ (∀ x, Scale (numF (l.take i)).1 (numF (l.drop (i + 1))).1 x → ∀ y, y < 18446744073709551616 → textW y = l → x = y) := by
  have key : ∀ y, y < 18446744073709551616 → textW y = l → ∃ (m n : Nat) (e : Int), (numF (l.take i)).1 = m ∧ m < 9007199254740992 ∧ numF (l.drop (i + 1)) = ((n : Int), true) ∧ e = (n : Int) ∧ n ≤ 1200 ∧ y < topR ∧ (∃ t : Nat, (t : Int) = e + 1074 ∧ mg y = m * 2 ^ t) := by
    intro y hy ht
    obtain ⟨m, e, hm, he1, he2, ht2, hd2, hyt, t, k1, k2⟩ := val_second hA hi h1 h2 h3 hy ht
    rcases itoa_head e with ⟨he, e3⟩ | ⟨he, e3⟩
    · rw [e3] at hd2
      exact absurd hd2 (hD _)
    · rw [e3] at hd2
      refine ⟨m, e.toNat, e, by rw [ht2, numF_dec hm], hm, by rw [hd2, numF_dec (by omega)], by omega, by omega, hyt, t, k1, k2⟩
  refine ⟨fun hc y hy ht => ?_, fun x hx y hy ht => ?_⟩
  · obtain ⟨m, n, e, _, _, k3, _, k5, _⟩ := key y hy ht
    rw [k3] at hc
    rcases hc with hc | hc
    · cases hc
    · simp only at hc; omega
  · obtain ⟨m, n, e, k1, k2, k3, k4, k5, k6, t, k7, k8⟩ := key y hy ht
    rw [k3] at hx
    exact hx m t y k1 k2 k6 (by simp only; omega) k8
theorem ext_from (s : ByteArray) (j : Nat) : (s.extract j s.size).data.toList = s.data.toList.drop j := by
  have := Lib.size_eq s
  rw [ByteArray.data_extract, Array.toList_extract, List.extract_eq_take_drop]
  rw [List.take_of_length_le (by rw [List.length_drop]; omega)]
theorem valW_no {l : List UInt8} {x : Nat} (hx : x < 18446744073709551616) (h : ∀ y, y < 18446744073709551616 → textW y = l → False) : ValW l x := ⟨hx, fun y hy ht => (h y hy ht).elim⟩
theorem valW_yes {l : List UInt8} {x : Nat} (hx : x < 18446744073709551616) (h : ∀ y, y < 18446744073709551616 → textW y = l → x = y) : ValW l x := ⟨hx, fun y hy ht => .inl (h y hy ht)⟩
theorem valW_nil {x : Nat} (hx : x < 18446744073709551616) : ValW [] x := valW_no hx (fun y hy ht => by
  obtain ⟨k1, k2⟩ := text_pos hy ht (by decide) (fun t => by simp)
  obtain ⟨c, l, e, _⟩ := headR k1
  rw [k2] at e
  cases e)
end Go.Proofs.YtghnlhadohnenaaGreatDoor
