/- The reference's digits and Print: the walks. -/
import Derived.Test.YtghnlhadohnenaaGreatDoorNumM
import Derived.Test.YtghnlhadohnenaaGreatDoorPDgx1
namespace Go.Proofs.YtghnlhadohnenaaGreatDoor
set_option exponentiation.threshold 3000
open Go.Shelf Go.RowKit Go.Lib Go.Proofs.YtghnlhadohnenaaGreatDoorW.PrintWords Go.Proofs.YtghnlhadohnenaaGreatDoorW.PrintLast Go.Proofs.YtghnlhadohnenaaGreatDoorW.PrintMore PDg
set_option linter.unusedVariables false
set_option linter.unusedSimpArgs false
theorem wrap_id {x : Int} (h1 : -9223372036854775808 ≤ x) (h2 : x ≤ 9223372036854775807) : wrap64 x = x := by unfold wrap64; omega
theorem one_num (d : Nat) (hd : d < 10) : strOfNums [(wrap64 (48 + (d : Int))) % 256] = ⟨#[UInt8.ofNat (48 + d)]⟩ := by
  have e : (wrap64 (48 + (d : Int))) % 256 = ((48 + d : Nat) : Int) := by rw [wrap_id (by omega) (by omega)]; omega
  rw [e]
  unfold strOfNums
  simp only [List.map_cons, List.map_nil, Int.toNat_natCast]
theorem digits_l0 : ∀ (m n : Nat) (acc : ByteArray), n < 10 ^ (m + 1) → m ≤ 17 → acc.size + m ≤ 1000 → Ev (fun k => tithebarnref21_digits.l0 k (n : Int) acc) (⟨(decDigits n ++ acc.data.toList).toArray⟩ : ByteArray) := by
  intro m
  induction m with
  | zero =>
    intro n acc hn _ ha
    have h10 : n < 10 := by simpa using hn
    have h1 := one_num n h10
    refine Ev.step (f := fun _ => some (⟨(decDigits n ++ acc.data.toList).toArray⟩ : ByteArray)) (fun k => ?_) (Ev.now _)
    simp only [tithebarnref21_digits.l0]
    rw [if_neg (by omega), Option.bind_some, h1, if_pos (by show 1 + acc.size ≤ _; omega), Lib.decDigits_one h10]
    congr 1
  | succ m ih =>
    intro n acc hn hm ha
    by_cases h10 : n < 10
    · have h1 := one_num n h10
      refine Ev.step (f := fun _ => some (⟨(decDigits n ++ acc.data.toList).toArray⟩ : ByteArray)) (fun k => ?_) (Ev.now _)
      simp only [tithebarnref21_digits.l0]
      rw [if_neg (by omega), Option.bind_some, h1, if_pos (by show 1 + acc.size ≤ _; omega), Lib.decDigits_one h10]
      congr 1
    · have hmod : n % 10 < 10 := Nat.mod_lt _ (by omega)
      have h1 := one_num (n % 10) hmod
      have hdiv : n / 10 < 10 ^ (m + 1) := by
        rw [Nat.div_lt_iff_lt_mul (by omega)]
        rwa [Nat.pow_succ] at hn
      have := ih (n / 10) ((⟨#[UInt8.ofNat (48 + n % 10)]⟩ : ByteArray) ++ acc) hdiv (by omega) (by rw [ByteArray.size_append]; show 1 + acc.size + m ≤ 1000; omega)
      have e2 : decDigits (n / 10) ++ ((⟨#[UInt8.ofNat (48 + n % 10)]⟩ : ByteArray) ++ acc).data.toList = decDigits n ++ acc.data.toList := by
        conv => rhs; rw [decDigits, dif_neg h10]
        simp [ByteArray.data_append]
      rw [e2] at this
      refine Ev.step (fun k => ?_) this
      simp only [tithebarnref21_digits.l0]
      have et : Int.tmod (n : Int) 10 = ((n % 10 : Nat) : Int) := by rw [Int.tmod_eq_emod_of_nonneg (by omega)]; omega
      have ed : Int.tdiv (n : Int) 10 = ((n / 10 : Nat) : Int) := by rw [Int.tdiv_eq_ediv_of_nonneg (by omega)]; omega
      have hb : (n / 10 : Nat) ≤ 9223372036854775807 := by
        have h : (10 : Nat) ^ (m + 1) ≤ 10 ^ 18 := Nat.pow_le_pow_right (by omega) (by omega)
        have : (10 : Nat) ^ 18 = 1000000000000000000 := by decide
        omega
      rw [if_pos (by omega), Option.bind_some, et, h1, if_pos (by show 1 + acc.size ≤ _; omega), ed, wrap_id (by omega) (by omega)]
theorem digits_any (n : Nat) (h : n < 9007199254740992) (w : World) : Calls Tryz.prog 48 #[.int .i64 n] w fun e w' => e = .returned (.string ⟨(decDigits n).toArray⟩) ∧ Below w.heap.size w w' := by
  have h1 := digits_l0 16 n ⟨#[]⟩ (by have : (10 : Nat) ^ 17 = 100000000000000000 := by decide
                                      omega) (by omega) (by decide)
  have e : (decDigits n ++ (⟨#[]⟩ : ByteArray).data.toList) = decDigits n := List.append_nil _
  rw [e] at h1
  obtain ⟨k, hk⟩ := Ev.rounds h1
  exact tithebarnref21_digits.calls k n _ w hk
theorem itoa_of (x : Int) : Lib.itoa x = if x < 0 then 45 :: decDigits x.natAbs else decDigits x.toNat := rfl
set_option maxHeartbeats 1000000 in
set_option maxRecDepth 100000 in
theorem refPrint_pos (r : Nat) (hr : r ≤ topR) (w : World) :
    Calls Tryz.prog 15 #[.float .f64 r] w fun e w' => e = .returned (.string ⟨(textR r).toArray⟩) ∧ Below w.heap.size w w' := by
  have hlt : r < 9223372036854775808 := by unfold topR at hr; omega
  have hx : r < 18446744073709551616 := by omega
  have hn : nanB r = false := nan_wd (s := false) hr
  have hsb : sb r = false := wd_sb (s := false) hlt
  have hrk : rk r = r := wd_rk (s := false) hlt
  have hN := ref_NaN r hx
  rw [hn] at hN
  have HN := Aside0.mk hN
  have hM := minus_any r hx
  rw [hn, hsb] at hM
  have HMI : Aside0 (∀ w, Calls Tryz.prog 45 #[.float .f64 r] w fun e w' => e = .returned (.bool false) ∧ w' = w) := Aside0.mk hM
  have hF := finite_any r hx
  rw [hrk] at hF
  have HD := Aside0.mk digits_any
  clear hN hM hsb hrk
  by_cases ci : r = topR
  · rw [decide_eq_false (by omega)] at hF
    have HF := Aside0.mk hF
    have HR : Aside0 (textR r = [105, 110, 102]) := Aside0.mk (by unfold textR; rw [if_pos ci])
    clear hF ci
    go_enter Tryz.func15, Tryz.ntmps15
    go_wp2_with (first | (go_at_call 44; refine (HN.out _).mono ?_; rintro e w' ⟨rfl, hw_⟩; obtain rfl := hw_.symm) | (go_at_call 45; refine (HMI.out _).mono ?_; rintro e w' ⟨rfl, hw_⟩; obtain rfl := hw_.symm) | (go_at_call 46; refine (HF.out _).mono ?_; rintro e wf ⟨rfl, hb⟩; have HB1 := Aside0.mk hb; clear hb) | (go_at_call 47; refine (HW.out _).mono ?_; rintro e w' ⟨rfl, hw_⟩; obtain rfl := hw_.symm) | (go_at_call 49; refine (HP.out _).mono ?_; rintro e w' ⟨rfl, hw_⟩; obtain rfl := hw_.symm))
    go_ret
    exact ⟨by rw [HR.out]; rfl, HB1.out⟩
  · have hr2 : r < topR := by omega
    rw [decide_eq_true hr2] at hF
    have HF := Aside0.mk hF
    have hWA := @whole_at r hr2
    by_cases cw : r < bigR ∧ whB r = true
    · have HR : Aside0 (textR r = decDigits (qT r)) := Aside0.mk (by unfold textR; rw [if_neg ci, if_pos cw])
      have hwn : wholeN r = ((qT r : Int), true) := by unfold wholeN; rw [if_pos cw]
      rw [hwn] at hWA
      have HW := Aside0.mk hWA
      have HQ := Aside0.mk (qT_lt cw.1)
      clear hWA hwn hF ci cw
      go_enter Tryz.func15, Tryz.ntmps15
      go_wp2_with (first | (go_at_call 44; refine (HN.out _).mono ?_; rintro e w' ⟨rfl, hw_⟩; obtain rfl := hw_.symm) | (go_at_call 45; refine (HMI.out _).mono ?_; rintro e w' ⟨rfl, hw_⟩; obtain rfl := hw_.symm) | (go_at_call 46; refine (HF.out _).mono ?_; rintro e wf ⟨rfl, hb⟩; have HB1 := Aside0.mk hb; clear hb) | (go_at_call 47; refine (HW.out _).mono ?_; rintro e w' ⟨rfl, hw_⟩; obtain rfl := hw_.symm) | (go_at_call 49; refine (HP.out _).mono ?_; rintro e w' ⟨rfl, hw_⟩; obtain rfl := hw_.symm) | (go_at_call 48; refine (HD.out _ HQ.out _).mono ?_; rintro e w2 ⟨rfl, hb⟩; have HB2 := Aside0.mk hb; clear hb))
      go_ret
      exact ⟨by rw [HR.out]; rfl, HB1.out.trans (HB2.out.mono HB1.out.size)⟩
    · have hpos : 0 < r := by
        rcases Nat.eq_zero_or_pos r with h | h
        · subst h
          exact absurd ⟨by decide, by decide +kernel⟩ cw
        · exact h
      have hHR : textR r = decDigits (oddM r) ++ 112 :: Lib.itoa (expM r) := by unfold textR; rw [if_neg ci, if_neg cw]
      rw [itoa_of] at hHR
      have hwn : wholeN r = (0, false) := by unfold wholeN; rw [if_neg cw]
      rw [hwn] at hWA
      have HW := Aside0.mk hWA
      have HP := Aside0.mk (refParts_any r hpos hr2)
      have hex := exp_in r hpos hr2
      have HOL := Aside0.mk (odd_lt r)
      have hs1 := fmt_size (oddM r) HOL.out
      generalize oddM r = m at *
      generalize expM r = ee at *
      clear hWA hwn hF ci cw hpos
      by_cases ce : ee < 0
      · have HS2 := Aside0.mk (fmt_size ee.natAbs (by omega))
        have HZ : Aside0 (∀ (a b : List UInt8), ((⟨a.toArray⟩ : ByteArray) ++ ⟨#[112, 45]⟩) ++ ⟨b.toArray⟩ = ⟨(a ++ 112 :: 45 :: b).toArray⟩) := Aside0.mk (fun a b => by apply ByteArray.ext; simp [ByteArray.data_append])
        rw [if_pos ce] at hHR
        have HR := Aside0.mk hHR
        clear hHR
        have hs2 := HS2.out
        obtain ⟨en, hen⟩ : ∃ en : Nat, ee = -(en : Int) := ⟨ee.natAbs, by omega⟩
        subst hen
        rw [Int.natAbs_neg, Int.natAbs_natCast] at *
        have HEL : Aside0 (en < 9007199254740992) := Aside0.mk (by omega)
        generalize hd : (⟨(decDigits m).toArray⟩ : ByteArray) = sd at *
        generalize hi2 : (⟨(decDigits en).toArray⟩ : ByteArray) = si at *
        have HDD := Aside0.mk hd
        have HI2 := Aside0.mk hi2
        have hs3 : (sd ++ (⟨#[112, 45]⟩ : ByteArray)).size ≤ 22 := by rw [ByteArray.size_append]; show sd.size + 2 ≤ 22; omega
        clear hd hi2
        go_enter Tryz.func15, Tryz.ntmps15
        go_wp2_with (first | (go_at_call 44; refine (HN.out _).mono ?_; rintro e w' ⟨rfl, hw_⟩; obtain rfl := hw_.symm) | (go_at_call 45; refine (HMI.out _).mono ?_; rintro e w' ⟨rfl, hw_⟩; obtain rfl := hw_.symm) | (go_at_call 46; refine (HF.out _).mono ?_; rintro e wf ⟨rfl, hb⟩; have HB1 := Aside0.mk hb; clear hb) | (go_at_call 47; refine (HW.out _).mono ?_; rintro e w' ⟨rfl, hw_⟩; obtain rfl := hw_.symm) | (go_at_call 49; refine (HP.out _).mono ?_; rintro e w' ⟨rfl, hw_⟩; obtain rfl := hw_.symm) | (go_at_call 48; refine (HD.out _ (by first | exact HOL.out | exact HEL.out) _).mono ?_; rintro e w2 ⟨rfl, hb⟩; first | (rw [HDD.out]; have HB2 := Aside0.mk hb; clear hb) | (rw [HI2.out]; have HB3 := Aside0.mk hb; clear hb)))
        go_ret
        refine ⟨?_, HB1.out.trans (HB2.out.trans (HB3.out.mono HB2.out.size) |>.mono HB1.out.size)⟩
        rw [HR.out, ← HZ.out, HDD.out, HI2.out]
        rfl
      · have HS2 := Aside0.mk (fmt_size ee.toNat (by omega))
        have HZ : Aside0 (∀ (a b : List UInt8), ((⟨a.toArray⟩ : ByteArray) ++ ⟨#[112]⟩) ++ ⟨b.toArray⟩ = ⟨(a ++ 112 :: b).toArray⟩) := Aside0.mk (fun a b => by apply ByteArray.ext; simp [ByteArray.data_append])
        rw [if_neg ce] at hHR
        have HR := Aside0.mk hHR
        clear hHR
        have hs2 := HS2.out
        obtain ⟨en, hen⟩ : ∃ en : Nat, ee = (en : Int) := ⟨ee.toNat, by omega⟩
        subst hen
        rw [Int.toNat_natCast] at *
        have HEL : Aside0 (en < 9007199254740992) := Aside0.mk (by omega)
        generalize hd : (⟨(decDigits m).toArray⟩ : ByteArray) = sd at *
        generalize hi2 : (⟨(decDigits en).toArray⟩ : ByteArray) = si at *
        have HDD := Aside0.mk hd
        have HI2 := Aside0.mk hi2
        have hs3 : (sd ++ (⟨#[112]⟩ : ByteArray)).size ≤ 22 := by rw [ByteArray.size_append]; show sd.size + 1 ≤ 22; omega
        clear hd hi2
        go_enter Tryz.func15, Tryz.ntmps15
        go_wp2_with (first | (go_at_call 44; refine (HN.out _).mono ?_; rintro e w' ⟨rfl, hw_⟩; obtain rfl := hw_.symm) | (go_at_call 45; refine (HMI.out _).mono ?_; rintro e w' ⟨rfl, hw_⟩; obtain rfl := hw_.symm) | (go_at_call 46; refine (HF.out _).mono ?_; rintro e wf ⟨rfl, hb⟩; have HB1 := Aside0.mk hb; clear hb) | (go_at_call 47; refine (HW.out _).mono ?_; rintro e w' ⟨rfl, hw_⟩; obtain rfl := hw_.symm) | (go_at_call 49; refine (HP.out _).mono ?_; rintro e w' ⟨rfl, hw_⟩; obtain rfl := hw_.symm) | (go_at_call 48; refine (HD.out _ (by first | exact HOL.out | exact HEL.out) _).mono ?_; rintro e w2 ⟨rfl, hb⟩; first | (rw [HDD.out]; have HB2 := Aside0.mk hb; clear hb) | (rw [HI2.out]; have HB3 := Aside0.mk hb; clear hb)))
        go_ret
        refine ⟨?_, HB1.out.trans (HB2.out.trans (HB3.out.mono HB2.out.size) |>.mono HB1.out.size)⟩
        rw [HR.out, ← HZ.out, HDD.out, HI2.out]
        rfl
set_option maxRecDepth 100000 in
theorem refPrint_any (x : Nat) (hx : x < 18446744073709551616) (w : World) :
    Calls Tryz.prog 15 #[.float .f64 x] w fun e w' => e = .returned (.string ⟨(textW x).toArray⟩) ∧ Below w.heap.size w w' := by
  have hN := ref_NaN x hx
  cases hn : nanB x with
  | true =>
    rw [hn] at hN
    have HN := Aside0.mk hN
    have HR : Aside0 (textW x = [110, 97, 110]) := Aside0.mk (by unfold textW; rw [hn]; rfl)
    clear hN
    go_enter Tryz.func15, Tryz.ntmps15
    go_wp2_with (go_at_call 44; refine (HN.out _).mono ?_; rintro e w' ⟨rfl, hw_⟩; obtain rfl := hw_.symm)
    go_ret
    exact ⟨by rw [HR.out]; rfl, Below.refl _ _⟩
  | false =>
    have hrk : rk x ≤ topR := by unfold nanB at hn; have := of_decide_eq_false hn; omega
    cases hs : sb x with
    | false =>
      have hw := wd_eq hx
      rw [hs] at hw
      have he : x = rk x := hw
      have ht : textW x = textR (rk x) := by unfold textW; rw [hn, hs]; rfl
      rw [ht]
      have := refPrint_pos (rk x) hrk w
      rw [← he] at this ⊢
      exact this
    | true =>
      rw [hn] at hN
      have HN := Aside0.mk hN
      have hM := minus_any x hx
      rw [hn, hs] at hM
      have HMI : Aside0 (∀ w, Calls Tryz.prog 45 #[.float .f64 x] w fun e w' => e = .returned (.bool true) ∧ w' = w) := Aside0.mk hM
      have hng := run_neg_float x hx
      rw [hs] at hng
      have HNG : Aside0 (∀ w, (Op.unary .neg (.float .f64 x)).run Tryz.prog w = .ok (.float .f64 (rk x)) w) := Aside0.mk hng
      have HP := Aside0.mk (refPrint_pos (rk x) hrk w)
      have HR : Aside0 (textW x = 45 :: textR (rk x)) := Aside0.mk (by unfold textW; rw [hn, hs]; rfl)
      have hlen := textR_len (rk x) hrk
      have hsz : (⟨(textR (rk x)).toArray⟩ : ByteArray).size ≤ 50 := by rw [Lib.size_eq]; exact hlen
      have HZ : Aside0 ((⟨#[45]⟩ : ByteArray) ++ ⟨(textR (rk x)).toArray⟩ = ⟨(45 :: textR (rk x)).toArray⟩) := Aside0.mk (by apply ByteArray.ext; simp [ByteArray.data_append])
      generalize hd : (⟨(textR (rk x)).toArray⟩ : ByteArray) = st at *
      clear hN hM hng hlen hd hs hrk
      go_enter Tryz.func15, Tryz.ntmps15
      go_wp2_with (first | (go_at_call 44; refine (HN.out _).mono ?_; rintro e w' ⟨rfl, hw_⟩; obtain rfl := hw_.symm) | (go_at_call 45; refine (HMI.out _).mono ?_; rintro e w' ⟨rfl, hw_⟩; obtain rfl := hw_.symm) | simp only [HNG.out] | (go_at_call 15; refine (HP.out).mono ?_; rintro e w1 ⟨rfl, hb⟩; have HB1 := Aside0.mk hb; clear hb))
      go_ret
      exact ⟨by rw [HR.out, ← HZ.out]; rfl, HB1.out⟩
end Go.Proofs.YtghnlhadohnenaaGreatDoor
