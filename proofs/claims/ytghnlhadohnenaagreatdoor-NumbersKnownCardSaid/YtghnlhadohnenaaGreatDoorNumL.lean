/- numbers.parts, numbers.Print: the walks. -/
import Derived.Test.YtghnlhadohnenaaGreatDoorNumK
import Derived.Test.YtghnlhadohnenaaGreatDoorNumI
import Derived.Lib.ItoaLen
namespace Go.Proofs.YtghnlhadohnenaaGreatDoor
set_option exponentiation.threshold 3000
open Go.Shelf Go.RowKit Go.Lib Go.Proofs.YtghnlhadohnenaaGreatDoorW.PrintWords Go.Proofs.YtghnlhadohnenaaGreatDoorW.PrintMore
set_option linter.unusedVariables false
set_option linter.unusedSimpArgs false
def tzM (r : Nat) : Nat := Lib.ctz 64 (dm r)
def oddM (r : Nat) : Nat := dm r / 2 ^ tzM r
def expM (r : Nat) : Int := -1074 + dp r + tzM r
theorem and52 (r : Nat) (h : r < 18446744073709551616) : bits .and .u64 (r : Int) 4503599627370495 = ((r % 4503599627370496 : Nat) : Int) := by
  have h1 := u64_and_nat r 4503599627370495 h (by omega)
  rw [show r &&& 4503599627370495 = r % 4503599627370496 from Nat.and_two_pow_sub_one_eq_mod r 52] at h1
  exact h1
theorem or52 (m : Nat) (h : m < 4503599627370496) : bits .or .u64 (m : Int) 4503599627370496 = ((4503599627370496 + m : Nat) : Int) := by
  have h1 := u64_or_nat m 4503599627370496 (by omega) (by omega)
  have h2 := Nat.two_pow_add_eq_or_of_lt (i := 52) (b := m) (by omega) 1
  rw [Nat.or_comm] at h1
  rw [Nat.mul_one] at h2
  rw [← show 4503599627370496 + m = 4503599627370496 ||| m from h2] at h1
  exact h1
theorem tz_lt (r : Nat) (h : 0 < r) : tzM r < 53 := by
  have h1 := dm_lt r
  have h2 := dm_pos h
  obtain ⟨m, e, _⟩ := Lib.ctzFrom_spec 64 (dm r) h2 (by omega)
  have e2 : Lib.ctzFrom 64 (dm r) = tzM r := by unfold tzM Lib.ctz; rw [if_neg (by omega)]
  rw [e2] at e
  rcases Nat.lt_or_ge (tzM r) 53 with c | c
  · exact c
  · have := Nat.pow_le_pow_right (n := 2) (by omega) c
    have h3 : 2 ^ tzM r ≤ dm r := by
      rw [e]
      exact Nat.le_mul_of_pos_right _ (by omega)
    omega
set_option maxHeartbeats 1000000 in
set_option maxRecDepth 100000 in
theorem parts_any (r : Nat) (h0 : 0 < r) (hr : r < topR) (w : World) (hT : NTabs w) :
    Calls Tryz.prog 35 #[.float .f64 r] w fun e w' => e = .returned (.tuple #[.int .u64 (oddM r), .int .i64 (expM r)]) ∧ w' = w := by
  have ht := topR
  have hr' : r < 9218868437227405312 := hr
  have h1 := and52 r (by omega)
  have htz := tz_lt r h0
  have hd0 := dm_pos h0
  have hd1 := dm_lt r
  have HZ : Aside0 (∀ w', w' = w → Calls Tryz.prog 63 #[.int .u64 (dm r)] w' fun e w'' => e = .returned (.int .i64 (tzM r)) ∧ w'' = w') := Aside0.mk (fun w' h => by subst h; exact tz64 (dm r) (by omega) (by omega) w' hT)
  have HO : Aside0 ((dm r : Int) / 2 ^ tzM r = (oddM r : Int)) := Aside0.mk (by
    unfold oddM
    rw [Int.natCast_ediv, Int.natCast_pow]
    rfl)
  have hq : r / 4503599627370496 < 2047 := by omega
  have hqi : (r : Int) / 4503599627370496 = ((r / 4503599627370496 : Nat) : Int) := by omega
  by_cases hb : r < 4503599627370496
  · have e1 : r / 4503599627370496 = 0 := by omega
    have e2 : r % 4503599627370496 = dm r := by unfold dm; rw [if_pos hb]; omega
    have HE : Aside0 ((-1074 : Int) + (tzM r : Int) = expM r) := Aside0.mk (by unfold expM dp; rw [e1]; omega)
    rw [e2] at h1
    clear ht hr' hd0 hd1 hT
    go_enter Tryz.func35, Tryz.ntmps35
    go_wp2_with (first | simp only [Float64bits_run] | (go_at_call 63; refine (HZ.out _ rfl).mono ?_; rintro e w' ⟨rfl, rfl⟩))
    go_ret2
    exact ⟨by show Ending.returned (.tuple #[.int .u64 ((dm r : Int) / 2 ^ tzM r), .int .i64 ((-1074 : Int) + (tzM r : Int))]) = _; rw [HO.out, HE.out], rfl⟩
  · have h2 := or52 (r % 4503599627370496) (by omega)
    have e2 : 4503599627370496 + r % 4503599627370496 = dm r := by unfold dm; rw [if_neg hb]
    rw [e2] at h2
    have HE : Aside0 (((r / 4503599627370496 : Nat) : Int) - 1075 + (tzM r : Int) = expM r) := Aside0.mk (by unfold expM dp; omega)
    have hq0 : 0 < r / 4503599627370496 := by omega
    generalize r / 4503599627370496 = q at *
    generalize r % 4503599627370496 = m at *
    clear ht hr' hd0 hd1 hT e2
    go_enter Tryz.func35, Tryz.ntmps35
    go_wp2_with (first | simp only [Float64bits_run] | (go_at_call 63; refine (HZ.out _ rfl).mono ?_; rintro e w' ⟨rfl, rfl⟩))
    go_ret2
    exact ⟨by show Ending.returned (.tuple #[.int .u64 ((dm r : Int) / 2 ^ tzM r), .int .i64 ((q : Int) - 1075 + (tzM r : Int))]) = _; rw [HO.out, HE.out], rfl⟩
/-- A positive number's text; any number's. -/
def textR (r : Nat) : List UInt8 := if r = topR then [105, 110, 102] else if r < bigR ∧ whB r = true then decDigits (qT r) else decDigits (oddM r) ++ 112 :: Lib.itoa (expM r)
def textW (x : Nat) : List UInt8 := if nanB x then [110, 97, 110] else if sb x then 45 :: textR (rk x) else textR (rk x)
theorem eq_trunc {r : Nat} (h : r < bigR) : (FloatKind.f64.format.order r (rn (qT r)) == some .eq) = whB r := by
  have hq := qT_lt h
  have hb := bigR_lt
  obtain ⟨r1, _, _⟩ := rn_facts (n := qT r) (by omega)
  have k1 : r < 9223372036854775808 := by unfold bigR at h; omega
  have k2 : rn (qT r) < 9223372036854775808 := by unfold topR at r1; omega
  have h1 := eqF_iff (x := r) (y := rn (qT r)) (by omega) (by omega) (nan_wd (s := false) (r := r) (by omega)) (nan_wd (s := false) (r := rn (qT r)) (by omega))
  unfold eqF at h1
  rw [h1, show sv r = (r : Int) from sv_wd (s := false) k1, show sv (rn (qT r)) = (rn (qT r) : Int) from sv_wd (s := false) k2]
  have h2 := rn_qT_iff h
  cases hw : whB r with
  | true => exact decide_eq_true (by rw [h2.2 hw])
  | false => exact decide_eq_false (fun hh => by
      rw [h2.1 (by omega)] at hw
      cases hw)
theorem odd_lt (r : Nat) : oddM r < 9007199254740992 := Nat.lt_of_le_of_lt (Nat.div_le_self _ _) (dm_lt r)
theorem exp_in (r : Nat) (h0 : 0 < r) (h : r < topR) : -1074 ≤ expM r ∧ expM r ≤ 1100 := by
  have := tz_lt r h0
  unfold expM dp
  unfold topR at h
  omega
theorem fmt_size (u : Nat) (h : u < 9007199254740992) : (⟨(decDigits u).toArray⟩ : ByteArray).size ≤ 20 := by
  rw [Lib.size_eq]
  show (decDigits u).length ≤ 20
  rw [Lib.decDigits_length]
  exact Lib.nDigits_le20 u (by omega)
theorem itoa_size (x : Int) (h0 : -1074 ≤ x) (h1 : x ≤ 1100) : (⟨(Lib.itoa x).toArray⟩ : ByteArray).size ≤ 21 := by
  rw [Lib.size_eq]
  exact Lib.itoa_length_le x (by omega) (by omega)
set_option maxHeartbeats 1000000 in
set_option maxRecDepth 100000 in
theorem Print_pos (r : Nat) (hr : r ≤ topR) (w : World) (hT : NTabs w) :
    Calls Tryz.prog 13 #[.float .f64 r] w fun e w' => e = .returned (.string ⟨(textR r).toArray⟩) ∧ Below w.heap.size w w' := by
  have hlt : r < 9223372036854775808 := by unfold topR at hr; omega
  have hx : r < 18446744073709551616 := by omega
  have hn : nanB r = false := nan_wd (s := false) hr
  have hsb : sb r = false := wd_sb (s := false) hlt
  have hrk : rk r = r := wd_rk (s := false) hlt
  have hsv : sv r = (r : Int) := sv_wd (s := false) hlt
  have h1 := neqF_self hx
  rw [hn] at h1
  have hS := Signbit_any r hx
  rw [hsb] at hS
  have HS := Aside0.mk hS
  have hI := IsInf_any r hx
  rw [hrk] at hI
  have hl := ltF_iff hx (y := 4845873199050653696) (by omega) hn (by decide)
  unfold ltF at hl
  rw [hsv, show sv 4845873199050653696 = 4845873199050653696 by decide] at hl
  have HT := Aside0.mk hT
  clear hS hT
  by_cases ci : r = topR
  · rw [decide_eq_true ci] at hI
    have HI := Aside0.mk hI
    have HR : Aside0 (textR r = [105, 110, 102]) := Aside0.mk (by unfold textR; rw [if_pos ci])
    clear hI hl hsv hrk ci
    go_enter Tryz.func13, Tryz.ntmps13
    go_wp2_with (first | (go_at_call 31; refine (HS.out _).mono ?_; rintro e w' ⟨rfl, rfl⟩) | (go_at_call 32; refine (HI.out _).mono ?_; rintro e w' ⟨rfl, rfl⟩))
    go_ret
    exact ⟨by rw [HR.out]; rfl, Below.refl _ _⟩
  · rw [decide_eq_false ci] at hI
    have HI := Aside0.mk hI
    have HPA : Aside0 (∀ w', w' = w → 0 < r → Calls Tryz.prog 35 #[.float .f64 r] w' fun e w'' => e = .returned (.tuple #[.int .u64 (oddM r), .int .i64 (expM r)]) ∧ w'' = w') := Aside0.mk (fun w' h h0 => by subst h; exact parts_any r h0 (by omega) w' HT.out)
    have HOD := odd_lt r
    have HFM : Aside0 (∀ u w', u < 9007199254740992 → Below w.heap.size w w' → Calls Tryz.prog 34 #[.int .u64 (u : Nat), .int .i64 10] w' fun e w'' => e = .returned (.string ⟨(decDigits u).toArray⟩) ∧ Below w'.heap.size w' w'') := Aside0.mk (fun u w' hu hb => FormatUint10 u (by omega) w' (HT.out.below hb).vt.p10)
    have HIT : Aside0 (∀ x w', -1074 ≤ x → x ≤ 1100 → Below w.heap.size w w' → Calls Tryz.prog 36 #[.int .i64 x] w' fun e w'' => e = .returned (.string ⟨(Lib.itoa x).toArray⟩) ∧ Below w'.heap.size w' w'') := Aside0.mk (fun x w' h0 h1 hb => itoa_any x (by omega) (by omega) w' (HT.out.below hb).vt)
    by_cases cw : r < bigR ∧ whB r = true
    · have HR : Aside0 (textR r = decDigits (qT r)) := Aside0.mk (by unfold textR; rw [if_neg ci, if_pos cw])
      have cb : r < 4845873199050653696 := cw.1
      rw [decide_eq_true (by omega)] at hl
      have he := eq_trunc cw.1
      rw [cw.2] at he
      have hTr : ∀ w, Calls Tryz.prog 33 #[.float .f64 r] w fun e w' => e = .returned (.float .f64 (rn (qT r))) ∧ w' = w := Trunc_num false r cw.1
      have HTR := Aside0.mk hTr
      have hti := toInt_whole false r cw.1 .u64 (.inr ⟨rfl, rfl⟩)
      have hc1 : ∀ w, (convert 25 47 (.float .f64 r)).run Tryz.prog w = .ok (.int .u64 (qT r)) w := fun w => run_convert_float_int w 25 47 .f64 .u64 r _ (by rw [Tryz.underlying25]; rfl) Tryz.underlying47 hti
      have HQ := Aside0.mk (qT_lt cw.1)
      clear hTr hti hI hsv hrk cb
      go_enter Tryz.func13, Tryz.ntmps13
      go_wp2_with (first | (go_at_call 31; refine (HS.out _).mono ?_; rintro e w' ⟨rfl, rfl⟩) | (go_at_call 32; refine (HI.out _).mono ?_; rintro e w' ⟨rfl, rfl⟩) | (go_at_call 33; refine (HTR.out _).mono ?_; rintro e w' ⟨rfl, rfl⟩) | simp only [hc1] | (go_at_call 34; refine (HFM.out _ _ HQ.out (Below.refl _ _)).mono ?_; rintro e w1 ⟨rfl, hb⟩; have HB1 := Aside0.mk hb; clear hb))
      go_ret
      exact ⟨by rw [HR.out]; rfl, HB1.out⟩
    · have hpos : 0 < r := by
        rcases Nat.eq_zero_or_pos r with h | h
        · subst h
          exact absurd ⟨by decide, by decide +kernel⟩ cw
        · exact h
      have HR : Aside0 (textR r = decDigits (oddM r) ++ 112 :: Lib.itoa (expM r)) := Aside0.mk (by unfold textR; rw [if_neg ci, if_neg cw])
      have hex := exp_in r hpos (by omega)
      have HEX := Aside0.mk hex
      have HOL := Aside0.mk HOD
      have hs1 := fmt_size (oddM r) HOD
      have hs2 := itoa_size (expM r) hex.1 hex.2
      have HZ : Aside0 (∀ (a b : List UInt8), ((⟨a.toArray⟩ : ByteArray) ++ ⟨#[112]⟩) ++ ⟨b.toArray⟩ = ⟨(a ++ 112 :: b).toArray⟩) := Aside0.mk (fun a b => by apply ByteArray.ext; simp [ByteArray.data_append])
      generalize hd : (⟨(decDigits (oddM r)).toArray⟩ : ByteArray) = sd at *
      generalize hi2 : (⟨(Lib.itoa (expM r)).toArray⟩ : ByteArray) = si at *
      have HD := Aside0.mk hd
      have HI2 := Aside0.mk hi2
      have hs3 : (sd ++ (⟨#[112]⟩ : ByteArray)).size ≤ 21 := by rw [ByteArray.size_append]; show sd.size + 1 ≤ 21; omega
      clear hex hI hsv hrk hd hi2 HOD
      by_cases cb : r < bigR
      · have cb' : r < 4845873199050653696 := cb
        rw [decide_eq_true (by omega)] at hl
        have he := eq_trunc cb
        rw [show whB r = false by cases hw : whB r with
          | false => rfl
          | true => exact absurd ⟨cb, hw⟩ cw] at he
        have HTR : Aside0 (∀ w, Calls Tryz.prog 33 #[.float .f64 r] w fun e w' => e = .returned (.float .f64 (rn (qT r))) ∧ w' = w) := Aside0.mk (Trunc_num false r cb)
        clear cw cb cb'
        go_enter Tryz.func13, Tryz.ntmps13
        go_wp2_with (first | (go_at_call 31; refine (HS.out _).mono ?_; rintro e w' ⟨rfl, rfl⟩) | (go_at_call 32; refine (HI.out _).mono ?_; rintro e w' ⟨rfl, rfl⟩) | (go_at_call 33; refine (HTR.out _).mono ?_; rintro e w' ⟨rfl, rfl⟩) | (go_at_call 35; refine (HPA.out _ rfl hpos).mono ?_; rintro e w' ⟨rfl, hw_⟩; obtain rfl := hw_.symm) | (go_at_call 34; refine (HFM.out _ _ HOL.out (Below.refl _ _)).mono ?_; rintro e w1 ⟨rfl, hb⟩; rw [HD.out]; have HB1 := Aside0.mk hb; clear hb) | (go_at_call 36; refine (HIT.out _ _ HEX.out.1 HEX.out.2 HB1.out).mono ?_; rintro e w2 ⟨rfl, hb⟩; rw [HI2.out]; have HB2 := Aside0.mk hb; clear hb))
        go_ret
        refine ⟨?_, HB1.out.trans (HB2.out.mono HB1.out.size)⟩
        rw [HR.out, ← HZ.out, HD.out, HI2.out]
        rfl
      · have cb' : ¬ r < 4845873199050653696 := cb
        rw [decide_eq_false (by omega)] at hl
        clear cw cb cb'
        go_enter Tryz.func13, Tryz.ntmps13
        go_wp2_with (first | (go_at_call 31; refine (HS.out _).mono ?_; rintro e w' ⟨rfl, rfl⟩) | (go_at_call 32; refine (HI.out _).mono ?_; rintro e w' ⟨rfl, rfl⟩) | (go_at_call 35; refine (HPA.out _ rfl hpos).mono ?_; rintro e w' ⟨rfl, hw_⟩; obtain rfl := hw_.symm) | (go_at_call 34; refine (HFM.out _ _ HOL.out (Below.refl _ _)).mono ?_; rintro e w1 ⟨rfl, hb⟩; rw [HD.out]; have HB1 := Aside0.mk hb; clear hb) | (go_at_call 36; refine (HIT.out _ _ HEX.out.1 HEX.out.2 HB1.out).mono ?_; rintro e w2 ⟨rfl, hb⟩; rw [HI2.out]; have HB2 := Aside0.mk hb; clear hb))
        go_ret
        refine ⟨?_, HB1.out.trans (HB2.out.mono HB1.out.size)⟩
        rw [HR.out, ← HZ.out, HD.out, HI2.out]
        rfl
theorem textR_len (r : Nat) (hr : r ≤ topR) : (textR r).length ≤ 50 := by
  unfold textR
  split
  · decide
  · rename_i c
    split
    · rename_i cw
      have h := fmt_size (qT r) (qT_lt cw.1)
      rw [Lib.size_eq] at h
      show (decDigits (qT r)).length ≤ 50
      have h' : (decDigits (qT r)).length ≤ 20 := h
      omega
    · rename_i cw
      have hpos : 0 < r := by
        rcases Nat.eq_zero_or_pos r with h | h
        · subst h
          exact absurd ⟨by decide, by decide +kernel⟩ cw
        · exact h
      have hex := exp_in r hpos (by omega)
      have h1 := fmt_size (oddM r) (odd_lt r)
      have h2 := itoa_size (expM r) hex.1 hex.2
      rw [Lib.size_eq] at h1 h2
      have h1' : (decDigits (oddM r)).length ≤ 20 := h1
      have h2' : (Lib.itoa (expM r)).length ≤ 21 := h2
      rw [List.length_append, List.length_cons]
      omega
set_option maxRecDepth 100000 in
theorem Print_any (x : Nat) (hx : x < 18446744073709551616) (w : World) (hT : NTabs w) :
    Calls Tryz.prog 13 #[.float .f64 x] w fun e w' => e = .returned (.string ⟨(textW x).toArray⟩) ∧ Below w.heap.size w w' := by
  cases hn : nanB x with
  | true =>
    have h1 := neqF_self hx
    rw [hn] at h1
    have HR : Aside0 (textW x = [110, 97, 110]) := Aside0.mk (by unfold textW; rw [hn]; rfl)
    clear hT
    go_enter Tryz.func13, Tryz.ntmps13
    go_wp2
    go_ret
    exact ⟨by rw [HR.out]; rfl, Below.refl _ _⟩
  | false =>
    have hrk : rk x ≤ topR := by unfold nanB at hn; have := of_decide_eq_false hn; omega
    cases hs : sb x with
    | false =>
      have hw := wd_eq hx
      rw [hs] at hw
      have he : x = rk x := hw
      have ht : textW x = textR (rk x) := by unfold textW; rw [hn, hs]; rfl
      rw [ht]
      have := Print_pos (rk x) hrk w hT
      rw [← he] at this ⊢
      exact this
    | true =>
      have h1 := neqF_self hx
      rw [hn] at h1
      have hS := Signbit_any x hx
      rw [hs] at hS
      have HS := Aside0.mk hS
      have hng := run_neg_float x hx
      rw [hs] at hng
      have HNG : Aside0 (∀ w, (Op.unary .neg (.float .f64 x)).run Tryz.prog w = .ok (.float .f64 (rk x)) w) := Aside0.mk hng
      have HP := Aside0.mk (Print_pos (rk x) hrk w hT)
      have HR : Aside0 (textW x = 45 :: textR (rk x)) := Aside0.mk (by unfold textW; rw [hn, hs]; rfl)
      have hlen := textR_len (rk x) hrk
      have hsz : (⟨(textR (rk x)).toArray⟩ : ByteArray).size ≤ 50 := by rw [Lib.size_eq]; exact hlen
      have HZ : Aside0 ((⟨#[45]⟩ : ByteArray) ++ ⟨(textR (rk x)).toArray⟩ = ⟨(45 :: textR (rk x)).toArray⟩) := Aside0.mk (by apply ByteArray.ext; simp [ByteArray.data_append])
      generalize hd : (⟨(textR (rk x)).toArray⟩ : ByteArray) = st at *
      clear hS hT hng hlen hd hs hrk
      go_enter Tryz.func13, Tryz.ntmps13
      go_wp2_with (first | (go_at_call 31; refine (HS.out _).mono ?_; rintro e w' ⟨rfl, rfl⟩) | simp only [HNG.out] | (go_at_call 13; refine (HP.out).mono ?_; rintro e w1 ⟨rfl, hb⟩; have HB1 := Aside0.mk hb; clear hb))
      go_ret
      exact ⟨by rw [HR.out, ← HZ.out]; rfl, HB1.out⟩
end Go.Proofs.YtghnlhadohnenaaGreatDoor
