/- numbers.Parse: the walk, path by path. (Printed by gen_parse.py.) -/
import Derived.Test.YtghnlhadohnenaaGreatDoorNumY
namespace Go.Proofs.YtghnlhadohnenaaGreatDoor
set_option exponentiation.threshold 3000
open Go.Shelf Go.RowKit Go.Proofs.YtghnlhadohnenaaGreatDoorW.PrintWords Go.Proofs.YtghnlhadohnenaaGreatDoorW.PrintLast Go.Proofs.YtghnlhadohnenaaGreatDoorW.PrintMore
set_option linter.unusedVariables false
set_option linter.unusedSimpArgs false
abbrev sgnW (M : Bool) (x : Nat) : Nat := if M = true then wd (!sb x) (rk x) else x
theorem sgn_lt (M : Bool) {x : Nat} (hx : x < 18446744073709551616) : sgnW M x < 18446744073709551616 := by
  cases M
  · exact hx
  · exact wd_lt (rk_lt x)
/-- The callees of one call: the text T behind the sign M. -/
structure PF (s T : ByteArray) (M : Bool) (w : World) : Prop where
  cp : ∀ w, Calls Tryz.prog 37 #[.string s, .string ⟨#[45]⟩] w fun e w' => e = .returned (.tuple #[.string T, .bool M]) ∧ w' = w
  pr : ∀ x, x < 18446744073709551616 → ∀ W, Below w.heap.size w W → Calls Tryz.prog 13 #[.float .f64 x] W fun e w' => e = .returned (.string ⟨(textW x).toArray⟩) ∧ Below w.heap.size w w'
def CutC (a b : List UInt8) (F : Bool) (T : ByteArray) (w : World) : Prop :=
  ∀ W, Below w.heap.size w W → Calls Tryz.prog 40 #[.string T, .string ⟨#[112]⟩] W fun e w' => e = .returned (.tuple #[.string ⟨a.toArray⟩, .string ⟨b.toArray⟩, .bool F]) ∧ Below w.heap.size w w'
def UintC (a : List UInt8) (w : World) (Q : Ending → Prop) : Prop :=
  ∀ W, Below w.heap.size w W → Calls Tryz.prog 41 #[.string ⟨a.toArray⟩, .int .i64 10, .int .i64 53] W fun e w' => Q e ∧ Below w.heap.size w w'
def AtoiC (b : List UInt8) (w : World) (Q : Ending → Prop) : Prop :=
  ∀ W, Below w.heap.size w W → Calls Tryz.prog 42 #[.string ⟨b.toArray⟩] W fun e w' => Q e ∧ Below w.heap.size w w'
def FinP (s : ByteArray) (M : Bool) (x : Nat) : Prop := (textW (sgnW M x) = s.data.toList → ParseP s.data.toList (sgnW M x) 0) ∧ (textW (sgnW M x) ≠ s.data.toList → ParseP s.data.toList 0 210)
theorem finP {s : ByteArray} {t : List UInt8} {M : Bool} {x : Nat} (hx0 : x < 18446744073709551616) (hcut : (M = true ∧ s.data.toList = 45 :: t) ∨ (M = false ∧ t = s.data.toList ∧ ∀ r, s.data.toList ≠ 45 :: r)) (hx : (t = [110, 97, 110] ∧ nanB x = true) ∨ (t ≠ [110, 97, 110] ∧ ∀ y, y ≤ topR → textR y = t → x = y)) : FinP s M x :=
  ⟨fun h => .inl ⟨rfl, sgn_lt M hx0, h⟩, fun h => .inr ⟨rfl, rfl, fun y hy he => h (parse_fin hcut hx y hy he)⟩⟩
set_option maxHeartbeats 1000000 in
set_option maxRecDepth 100000 in
theorem parse_nan (s T : ByteArray) (M : Bool) (w : World) (hF : PF s T M w) (hT : T.toList = [110, 97, 110]) (x : Nat) (hx : x < 18446744073709551616) (hc : ∀ w, Calls Tryz.prog 38 #[] w fun e w' => e = .returned (.float .f64 x) ∧ w' = w) (hfin : FinP s M x) : Calls Tryz.prog 14 #[.string s] w (ParseE s w) := by
  have HCP := Aside0.mk hF.cp
  have HB := Aside0.mk (Below.refl w.heap.size w)
  have HC := Aside0.mk hc
  have HNG := Aside0.mk (run_neg_float x hx)
  cases M with
  | false =>
    have HFIN := Aside0.mk hfin
    have HPR := Aside0.mk (hF.pr _ (sgn_lt false hx))
    simp only [sgnW, if_true, if_false, Bool.false_eq_true, FinP] at HFIN HPR
    clear hF hc hfin hx
    go_enter Tryz.func14, Tryz.ntmps14
    go_wp2_with (first | (go_at_call 37; (with_reducible refine (HCP.out _).mono ?_); rintro e w' ⟨rfl, hw_⟩; obtain rfl := hw_.symm) | (go_at_call 38; (with_reducible refine (HC.out _).mono ?_); rintro e w' ⟨rfl, hw_⟩; obtain rfl := hw_.symm) | simp only [HNG.out] | (go_at_call 13; (with_reducible refine (HPR.out _ HB.out).mono ?_); rintro e w1 ⟨rfl, hb⟩; have HB := Aside0.mk hb; clear hb))
    · have hne : (!textW (x) == s.toList) = true := by assumption
      go_ret2
      exact ⟨0, 210, rfl, HFIN.out.2 (by rw [← Lib.toList_data]; simpa using hne), HB.out⟩
    · have hne : (!textW (x) == s.toList) = false := by assumption
      go_ret2
      exact ⟨x, 0, rfl, HFIN.out.1 (by rw [← Lib.toList_data]; simpa using hne), HB.out⟩
  | true =>
    have HFIN := Aside0.mk hfin
    have HPR := Aside0.mk (hF.pr _ (sgn_lt true hx))
    simp only [sgnW, if_true, if_false, Bool.false_eq_true, FinP] at HFIN HPR
    clear hF hc hfin hx
    go_enter Tryz.func14, Tryz.ntmps14
    go_wp2_with (first | (go_at_call 37; (with_reducible refine (HCP.out _).mono ?_); rintro e w' ⟨rfl, hw_⟩; obtain rfl := hw_.symm) | (go_at_call 38; (with_reducible refine (HC.out _).mono ?_); rintro e w' ⟨rfl, hw_⟩; obtain rfl := hw_.symm) | simp only [HNG.out] | (go_at_call 13; (with_reducible refine (HPR.out _ HB.out).mono ?_); rintro e w1 ⟨rfl, hb⟩; have HB := Aside0.mk hb; clear hb))
    · have hne : (!textW (wd (!sb x) (rk x)) == s.toList) = true := by assumption
      go_ret2
      exact ⟨0, 210, rfl, HFIN.out.2 (by rw [← Lib.toList_data]; simpa using hne), HB.out⟩
    · have hne : (!textW (wd (!sb x) (rk x)) == s.toList) = false := by assumption
      go_ret2
      exact ⟨wd (!sb x) (rk x), 0, rfl, HFIN.out.1 (by rw [← Lib.toList_data]; simpa using hne), HB.out⟩
set_option maxHeartbeats 1000000 in
set_option maxRecDepth 100000 in
theorem parse_inf (s T : ByteArray) (M : Bool) (w : World) (hF : PF s T M w) (hT : T.toList = [105, 110, 102]) (x : Nat) (hx : x < 18446744073709551616) (hc : ∀ w, Calls Tryz.prog 39 #[.int .i64 1] w fun e w' => e = .returned (.float .f64 x) ∧ w' = w) (hfin : FinP s M x) : Calls Tryz.prog 14 #[.string s] w (ParseE s w) := by
  have HCP := Aside0.mk hF.cp
  have HB := Aside0.mk (Below.refl w.heap.size w)
  have hTn : (T.toList == [110, 97, 110]) = false := by rw [hT]; decide
  have HC := Aside0.mk hc
  have HNG := Aside0.mk (run_neg_float x hx)
  cases M with
  | false =>
    have HFIN := Aside0.mk hfin
    have HPR := Aside0.mk (hF.pr _ (sgn_lt false hx))
    simp only [sgnW, if_true, if_false, Bool.false_eq_true, FinP] at HFIN HPR
    clear hF hc hfin hx
    go_enter Tryz.func14, Tryz.ntmps14
    go_wp2_with (first | (go_at_call 37; (with_reducible refine (HCP.out _).mono ?_); rintro e w' ⟨rfl, hw_⟩; obtain rfl := hw_.symm) | (go_at_call 39; (with_reducible refine (HC.out _).mono ?_); rintro e w' ⟨rfl, hw_⟩; obtain rfl := hw_.symm) | simp only [HNG.out] | (go_at_call 13; (with_reducible refine (HPR.out _ HB.out).mono ?_); rintro e w1 ⟨rfl, hb⟩; have HB := Aside0.mk hb; clear hb))
    · have hne : (!textW (x) == s.toList) = true := by assumption
      go_ret2
      exact ⟨0, 210, rfl, HFIN.out.2 (by rw [← Lib.toList_data]; simpa using hne), HB.out⟩
    · have hne : (!textW (x) == s.toList) = false := by assumption
      go_ret2
      exact ⟨x, 0, rfl, HFIN.out.1 (by rw [← Lib.toList_data]; simpa using hne), HB.out⟩
  | true =>
    have HFIN := Aside0.mk hfin
    have HPR := Aside0.mk (hF.pr _ (sgn_lt true hx))
    simp only [sgnW, if_true, if_false, Bool.false_eq_true, FinP] at HFIN HPR
    clear hF hc hfin hx
    go_enter Tryz.func14, Tryz.ntmps14
    go_wp2_with (first | (go_at_call 37; (with_reducible refine (HCP.out _).mono ?_); rintro e w' ⟨rfl, hw_⟩; obtain rfl := hw_.symm) | (go_at_call 39; (with_reducible refine (HC.out _).mono ?_); rintro e w' ⟨rfl, hw_⟩; obtain rfl := hw_.symm) | simp only [HNG.out] | (go_at_call 13; (with_reducible refine (HPR.out _ HB.out).mono ?_); rintro e w1 ⟨rfl, hb⟩; have HB := Aside0.mk hb; clear hb))
    · have hne : (!textW (wd (!sb x) (rk x)) == s.toList) = true := by assumption
      go_ret2
      exact ⟨0, 210, rfl, HFIN.out.2 (by rw [← Lib.toList_data]; simpa using hne), HB.out⟩
    · have hne : (!textW (wd (!sb x) (rk x)) == s.toList) = false := by assumption
      go_ret2
      exact ⟨wd (!sb x) (rk x), 0, rfl, HFIN.out.1 (by rw [← Lib.toList_data]; simpa using hne), HB.out⟩
set_option maxHeartbeats 1000000 in
set_option maxRecDepth 100000 in
theorem parse_r1 (s T : ByteArray) (M : Bool) (w : World) (hF : PF s T M w) (h1 : (T.toList == [110, 97, 110]) = false) (h2 : (T.toList == [105, 110, 102]) = false) (a b : List UInt8) (hcut : CutC a b false T w) (hu : UintC a w (fun e => ∃ u tt pp, e = .returned (.tuple #[.int .u64 u, .iface tt (.pointer (some pp))]))) (href : ParseP s.data.toList 0 210) : Calls Tryz.prog 14 #[.string s] w (ParseE s w) := by
  have HCP := Aside0.mk hF.cp
  have HB := Aside0.mk (Below.refl w.heap.size w)
  have HCUT := Aside0.mk hcut
  have HU := Aside0.mk hu
  have HREF := Aside0.mk href
  simp only [CutC, UintC, AtoiC] at HCUT HU
  clear hF hcut hu href
  go_enter Tryz.func14, Tryz.ntmps14
  go_wp2_with (first | (go_at_call 37; (with_reducible refine (HCP.out _).mono ?_); rintro e w' ⟨rfl, hw_⟩; obtain rfl := hw_.symm) | (go_at_call 40; (with_reducible refine (HCUT.out _ HB.out).mono ?_); rintro e w1 ⟨rfl, hb⟩; have HB := Aside0.mk hb; clear hb) | (go_at_call 41; (with_reducible refine (HU.out _ HB.out).mono ?_); rintro e w1 ⟨⟨u, tt, pp, rfl⟩, hb⟩; have HB := Aside0.mk hb; clear hb))
  go_ret2
  exact ⟨0, 210, rfl, HREF.out, HB.out⟩
set_option maxHeartbeats 1000000 in
set_option maxRecDepth 100000 in
theorem parse_r2 (s T : ByteArray) (M : Bool) (w : World) (hF : PF s T M w) (h1 : (T.toList == [110, 97, 110]) = false) (h2 : (T.toList == [105, 110, 102]) = false) (a b : List UInt8) (hcut : CutC a b true T w) (hu : UintC a w (fun e => ∃ u tt pp, e = .returned (.tuple #[.int .u64 u, .iface tt (.pointer (some pp))]))) (hat : AtoiC b w (fun e => ∃ v ev, e = .returned (.tuple #[.int .i64 v, ev]))) (href : ParseP s.data.toList 0 210) : Calls Tryz.prog 14 #[.string s] w (ParseE s w) := by
  have HCP := Aside0.mk hF.cp
  have HB := Aside0.mk (Below.refl w.heap.size w)
  have HCUT := Aside0.mk hcut
  have HU := Aside0.mk hu
  have HREF := Aside0.mk href
  have HAT := Aside0.mk hat
  simp only [CutC, UintC, AtoiC] at HCUT HU HAT
  clear hF hcut hu href hat
  go_enter Tryz.func14, Tryz.ntmps14
  go_wp2_with (first | (go_at_call 37; (with_reducible refine (HCP.out _).mono ?_); rintro e w' ⟨rfl, hw_⟩; obtain rfl := hw_.symm) | (go_at_call 40; (with_reducible refine (HCUT.out _ HB.out).mono ?_); rintro e w1 ⟨rfl, hb⟩; have HB := Aside0.mk hb; clear hb) | (go_at_call 41; (with_reducible refine (HU.out _ HB.out).mono ?_); rintro e w1 ⟨⟨u, tt, pp, rfl⟩, hb⟩; have HB := Aside0.mk hb; clear hb) | (go_at_call 42; (with_reducible refine (HAT.out _ HB.out).mono ?_); rintro e w1 ⟨⟨v, ev, rfl⟩, hb⟩; have HB := Aside0.mk hb; clear hb))
  go_ret2
  exact ⟨0, 210, rfl, HREF.out, HB.out⟩
set_option maxHeartbeats 1000000 in
set_option maxRecDepth 100000 in
theorem parse_r3 (s T : ByteArray) (M : Bool) (w : World) (hF : PF s T M w) (h1 : (T.toList == [110, 97, 110]) = false) (h2 : (T.toList == [105, 110, 102]) = false) (a b : List UInt8) (hcut : CutC a b true T w) (n : Nat) (hu : UintC a w (fun e => e = .returned (.tuple #[.int .u64 ((n : Nat) : Int), .nilIface]))) (hat : AtoiC b w (fun e => ∃ v pp, e = .returned (.tuple #[.int .i64 v, .iface 90 pp]))) (href : ParseP s.data.toList 0 210) : Calls Tryz.prog 14 #[.string s] w (ParseE s w) := by
  have HCP := Aside0.mk hF.cp
  have HB := Aside0.mk (Below.refl w.heap.size w)
  have HCUT := Aside0.mk hcut
  have HU := Aside0.mk hu
  have HREF := Aside0.mk href
  have HAT := Aside0.mk hat
  simp only [CutC, UintC, AtoiC] at HCUT HU HAT
  clear hF hcut hu href hat
  go_enter Tryz.func14, Tryz.ntmps14
  go_wp2_with (first | (go_at_call 37; (with_reducible refine (HCP.out _).mono ?_); rintro e w' ⟨rfl, hw_⟩; obtain rfl := hw_.symm) | (go_at_call 40; (with_reducible refine (HCUT.out _ HB.out).mono ?_); rintro e w1 ⟨rfl, hb⟩; have HB := Aside0.mk hb; clear hb) | (go_at_call 41; (with_reducible refine (HU.out _ HB.out).mono ?_); rintro e w1 ⟨rfl, hb⟩; have HB := Aside0.mk hb; clear hb) | (go_at_call 42; (with_reducible refine (HAT.out _ HB.out).mono ?_); rintro e w1 ⟨⟨v, pp, rfl⟩, hb⟩; have HB := Aside0.mk hb; clear hb))
  go_ret2
  exact ⟨0, 210, rfl, HREF.out, HB.out⟩
set_option maxHeartbeats 1000000 in
set_option maxRecDepth 100000 in
theorem parse_r4 (s T : ByteArray) (M : Bool) (w : World) (hF : PF s T M w) (h1 : (T.toList == [110, 97, 110]) = false) (h2 : (T.toList == [105, 110, 102]) = false) (a b : List UInt8) (hcut : CutC a b true T w) (n : Nat) (k : Int) (hk : 2000 < k) (hu : UintC a w (fun e => e = .returned (.tuple #[.int .u64 ((n : Nat) : Int), .nilIface]))) (hat : AtoiC b w (fun e => e = .returned (.tuple #[.int .i64 k, .nilIface]))) (href : ParseP s.data.toList 0 210) : Calls Tryz.prog 14 #[.string s] w (ParseE s w) := by
  have HCP := Aside0.mk hF.cp
  have HB := Aside0.mk (Below.refl w.heap.size w)
  have HCUT := Aside0.mk hcut
  have HU := Aside0.mk hu
  have HREF := Aside0.mk href
  have HAT := Aside0.mk hat
  simp only [CutC, UintC, AtoiC] at HCUT HU HAT
  clear hF hcut hu href hat
  go_enter Tryz.func14, Tryz.ntmps14
  go_wp2_with (first | (go_at_call 37; (with_reducible refine (HCP.out _).mono ?_); rintro e w' ⟨rfl, hw_⟩; obtain rfl := hw_.symm) | (go_at_call 40; (with_reducible refine (HCUT.out _ HB.out).mono ?_); rintro e w1 ⟨rfl, hb⟩; have HB := Aside0.mk hb; clear hb) | (go_at_call 41; (with_reducible refine (HU.out _ HB.out).mono ?_); rintro e w1 ⟨rfl, hb⟩; have HB := Aside0.mk hb; clear hb) | (go_at_call 42; (with_reducible refine (HAT.out _ HB.out).mono ?_); rintro e w1 ⟨rfl, hb⟩; have HB := Aside0.mk hb; clear hb))
  go_ret2
  exact ⟨0, 210, rfl, HREF.out, HB.out⟩
set_option maxHeartbeats 1000000 in
set_option maxRecDepth 100000 in
theorem parse_r5 (s T : ByteArray) (M : Bool) (w : World) (hF : PF s T M w) (h1 : (T.toList == [110, 97, 110]) = false) (h2 : (T.toList == [105, 110, 102]) = false) (a b : List UInt8) (hcut : CutC a b true T w) (n : Nat) (k : Int) (hk : k < -2000) (hu : UintC a w (fun e => e = .returned (.tuple #[.int .u64 ((n : Nat) : Int), .nilIface]))) (hat : AtoiC b w (fun e => e = .returned (.tuple #[.int .i64 k, .nilIface]))) (href : ParseP s.data.toList 0 210) : Calls Tryz.prog 14 #[.string s] w (ParseE s w) := by
  have HCP := Aside0.mk hF.cp
  have HB := Aside0.mk (Below.refl w.heap.size w)
  have HCUT := Aside0.mk hcut
  have HU := Aside0.mk hu
  have HREF := Aside0.mk href
  have HAT := Aside0.mk hat
  simp only [CutC, UintC, AtoiC] at HCUT HU HAT
  clear hF hcut hu href hat
  go_enter Tryz.func14, Tryz.ntmps14
  go_wp2_with (first | (go_at_call 37; (with_reducible refine (HCP.out _).mono ?_); rintro e w' ⟨rfl, hw_⟩; obtain rfl := hw_.symm) | (go_at_call 40; (with_reducible refine (HCUT.out _ HB.out).mono ?_); rintro e w1 ⟨rfl, hb⟩; have HB := Aside0.mk hb; clear hb) | (go_at_call 41; (with_reducible refine (HU.out _ HB.out).mono ?_); rintro e w1 ⟨rfl, hb⟩; have HB := Aside0.mk hb; clear hb) | (go_at_call 42; (with_reducible refine (HAT.out _ HB.out).mono ?_); rintro e w1 ⟨rfl, hb⟩; have HB := Aside0.mk hb; clear hb))
  go_ret2
  exact ⟨0, 210, rfl, HREF.out, HB.out⟩
set_option maxHeartbeats 1000000 in
set_option maxRecDepth 100000 in
theorem parse_s1 (s T : ByteArray) (M : Bool) (w : World) (hF : PF s T M w) (h1 : (T.toList == [110, 97, 110]) = false) (h2 : (T.toList == [105, 110, 102]) = false) (a b : List UInt8) (hcut : CutC a b false T w) (n : Nat) (hn : n < 9007199254740992) (hu : UintC a w (fun e => e = .returned (.tuple #[.int .u64 ((n : Nat) : Int), .nilIface]))) (hfin : ∀ x, x < 18446744073709551616 → nanB x = false → Scale n 0 x → FinP s M x) : Calls Tryz.prog 14 #[.string s] w (ParseE s w) := by
  have HCP := Aside0.mk hF.cp
  have HB := Aside0.mk (Below.refl w.heap.size w)
  have HCUT := Aside0.mk hcut
  have HU := Aside0.mk hu
  have HFIN := Aside0.mk hfin
  have HF := Aside0.mk hF
  have HLD := Aside0.mk (fun w => Ldexp_any n hn 0 ⟨by omega, by omega⟩ w)
  have hfl := (rn_facts (n := n) (by omega)).2.2 n (by simp)
  rw [decide_eq_false (by omega), show wd false (rn n) = rn n from rfl] at hfl
  simp only [CutC, UintC, AtoiC] at HCUT HU
  simp only [FinP] at HFIN
  clear hF hcut hu hfin
  cases M with
  | false =>
    go_enter Tryz.func14, Tryz.ntmps14
    go_wp2_with (first | (go_at_call 37; (with_reducible refine (HCP.out _).mono ?_); rintro e w' ⟨rfl, hw_⟩; obtain rfl := hw_.symm) | (go_at_call 40; (with_reducible refine (HCUT.out _ HB.out).mono ?_); rintro e w1 ⟨rfl, hb⟩; have HB := Aside0.mk hb; clear hb) | (go_at_call 41; (with_reducible refine (HU.out _ HB.out).mono ?_); rintro e w1 ⟨rfl, hb⟩; have HB := Aside0.mk hb; clear hb) | (go_at_call 43; (with_reducible refine (HLD.out _).mono ?_); rintro e w1 ⟨x, rfl, hx1, hx2, hx3, hw_⟩; obtain rfl := hw_.symm; have hfin := HFIN.out x hx1 hx2 hx3; simp only [sgnW, if_true, if_false, Bool.false_eq_true] at hfin; have HFI := Aside0.mk hfin; have hpr := HF.out.pr _ (sgn_lt false hx1); simp only [sgnW, if_true, if_false, Bool.false_eq_true] at hpr; have HPR := Aside0.mk hpr; have HNG := Aside0.mk (run_neg_float x hx1); clear hx2 hx3 hfin hpr) | simp only [HNG.out] | (go_at_call 13; (with_reducible refine (HPR.out _ HB.out).mono ?_); rintro e w1 ⟨rfl, hb⟩; have HB := Aside0.mk hb; clear hb))
    · have hne : (!textW (x) == s.toList) = true := by assumption
      go_ret2
      exact ⟨0, 210, rfl, HFI.out.2 (by rw [← Lib.toList_data]; simpa using hne), HB.out⟩
    · have hne : (!textW (x) == s.toList) = false := by assumption
      go_ret2
      exact ⟨x, 0, rfl, HFI.out.1 (by rw [← Lib.toList_data]; simpa using hne), HB.out⟩
  | true =>
    go_enter Tryz.func14, Tryz.ntmps14
    go_wp2_with (first | (go_at_call 37; (with_reducible refine (HCP.out _).mono ?_); rintro e w' ⟨rfl, hw_⟩; obtain rfl := hw_.symm) | (go_at_call 40; (with_reducible refine (HCUT.out _ HB.out).mono ?_); rintro e w1 ⟨rfl, hb⟩; have HB := Aside0.mk hb; clear hb) | (go_at_call 41; (with_reducible refine (HU.out _ HB.out).mono ?_); rintro e w1 ⟨rfl, hb⟩; have HB := Aside0.mk hb; clear hb) | (go_at_call 43; (with_reducible refine (HLD.out _).mono ?_); rintro e w1 ⟨x, rfl, hx1, hx2, hx3, hw_⟩; obtain rfl := hw_.symm; have hfin := HFIN.out x hx1 hx2 hx3; simp only [sgnW, if_true, if_false, Bool.false_eq_true] at hfin; have HFI := Aside0.mk hfin; have hpr := HF.out.pr _ (sgn_lt true hx1); simp only [sgnW, if_true, if_false, Bool.false_eq_true] at hpr; have HPR := Aside0.mk hpr; have HNG := Aside0.mk (run_neg_float x hx1); clear hx2 hx3 hfin hpr) | simp only [HNG.out] | (go_at_call 13; (with_reducible refine (HPR.out _ HB.out).mono ?_); rintro e w1 ⟨rfl, hb⟩; have HB := Aside0.mk hb; clear hb))
    · have hne : (!textW (wd (!sb x) (rk x)) == s.toList) = true := by assumption
      go_ret2
      exact ⟨0, 210, rfl, HFI.out.2 (by rw [← Lib.toList_data]; simpa using hne), HB.out⟩
    · have hne : (!textW (wd (!sb x) (rk x)) == s.toList) = false := by assumption
      go_ret2
      exact ⟨wd (!sb x) (rk x), 0, rfl, HFI.out.1 (by rw [← Lib.toList_data]; simpa using hne), HB.out⟩
set_option maxHeartbeats 1000000 in
set_option maxRecDepth 100000 in
theorem parse_s2 (s T : ByteArray) (M : Bool) (w : World) (hF : PF s T M w) (h1 : (T.toList == [110, 97, 110]) = false) (h2 : (T.toList == [105, 110, 102]) = false) (a b : List UInt8) (hcut : CutC a b true T w) (n : Nat) (hn : n < 9007199254740992) (k : Int) (hk1 : k ≤ 2000) (hk2 : -2000 ≤ k) (hu : UintC a w (fun e => e = .returned (.tuple #[.int .u64 ((n : Nat) : Int), .nilIface]))) (hat : AtoiC b w (fun e => e = .returned (.tuple #[.int .i64 k, .nilIface]))) (hfin : ∀ x, x < 18446744073709551616 → nanB x = false → Scale n k x → FinP s M x) : Calls Tryz.prog 14 #[.string s] w (ParseE s w) := by
  have HCP := Aside0.mk hF.cp
  have HB := Aside0.mk (Below.refl w.heap.size w)
  have HCUT := Aside0.mk hcut
  have HU := Aside0.mk hu
  have HFIN := Aside0.mk hfin
  have HF := Aside0.mk hF
  have HAT := Aside0.mk hat
  have HLD := Aside0.mk (fun w => Ldexp_any n hn k ⟨by omega, by omega⟩ w)
  have hfl := (rn_facts (n := n) (by omega)).2.2 n (by simp)
  rw [decide_eq_false (by omega), show wd false (rn n) = rn n from rfl] at hfl
  simp only [CutC, UintC, AtoiC] at HCUT HU HAT
  simp only [FinP] at HFIN
  clear hF hcut hu hfin hat
  cases M with
  | false =>
    go_enter Tryz.func14, Tryz.ntmps14
    go_wp2_with (first | (go_at_call 37; (with_reducible refine (HCP.out _).mono ?_); rintro e w' ⟨rfl, hw_⟩; obtain rfl := hw_.symm) | (go_at_call 40; (with_reducible refine (HCUT.out _ HB.out).mono ?_); rintro e w1 ⟨rfl, hb⟩; have HB := Aside0.mk hb; clear hb) | (go_at_call 41; (with_reducible refine (HU.out _ HB.out).mono ?_); rintro e w1 ⟨rfl, hb⟩; have HB := Aside0.mk hb; clear hb) | (go_at_call 42; (with_reducible refine (HAT.out _ HB.out).mono ?_); rintro e w1 ⟨rfl, hb⟩; have HB := Aside0.mk hb; clear hb) | (go_at_call 43; (with_reducible refine (HLD.out _).mono ?_); rintro e w1 ⟨x, rfl, hx1, hx2, hx3, hw_⟩; obtain rfl := hw_.symm; have hfin := HFIN.out x hx1 hx2 hx3; simp only [sgnW, if_true, if_false, Bool.false_eq_true] at hfin; have HFI := Aside0.mk hfin; have hpr := HF.out.pr _ (sgn_lt false hx1); simp only [sgnW, if_true, if_false, Bool.false_eq_true] at hpr; have HPR := Aside0.mk hpr; have HNG := Aside0.mk (run_neg_float x hx1); clear hx2 hx3 hfin hpr) | simp only [HNG.out] | (go_at_call 13; (with_reducible refine (HPR.out _ HB.out).mono ?_); rintro e w1 ⟨rfl, hb⟩; have HB := Aside0.mk hb; clear hb))
    · have hne : (!textW (x) == s.toList) = true := by assumption
      go_ret2
      exact ⟨0, 210, rfl, HFI.out.2 (by rw [← Lib.toList_data]; simpa using hne), HB.out⟩
    · have hne : (!textW (x) == s.toList) = false := by assumption
      go_ret2
      exact ⟨x, 0, rfl, HFI.out.1 (by rw [← Lib.toList_data]; simpa using hne), HB.out⟩
  | true =>
    go_enter Tryz.func14, Tryz.ntmps14
    go_wp2_with (first | (go_at_call 37; (with_reducible refine (HCP.out _).mono ?_); rintro e w' ⟨rfl, hw_⟩; obtain rfl := hw_.symm) | (go_at_call 40; (with_reducible refine (HCUT.out _ HB.out).mono ?_); rintro e w1 ⟨rfl, hb⟩; have HB := Aside0.mk hb; clear hb) | (go_at_call 41; (with_reducible refine (HU.out _ HB.out).mono ?_); rintro e w1 ⟨rfl, hb⟩; have HB := Aside0.mk hb; clear hb) | (go_at_call 42; (with_reducible refine (HAT.out _ HB.out).mono ?_); rintro e w1 ⟨rfl, hb⟩; have HB := Aside0.mk hb; clear hb) | (go_at_call 43; (with_reducible refine (HLD.out _).mono ?_); rintro e w1 ⟨x, rfl, hx1, hx2, hx3, hw_⟩; obtain rfl := hw_.symm; have hfin := HFIN.out x hx1 hx2 hx3; simp only [sgnW, if_true, if_false, Bool.false_eq_true] at hfin; have HFI := Aside0.mk hfin; have hpr := HF.out.pr _ (sgn_lt true hx1); simp only [sgnW, if_true, if_false, Bool.false_eq_true] at hpr; have HPR := Aside0.mk hpr; have HNG := Aside0.mk (run_neg_float x hx1); clear hx2 hx3 hfin hpr) | simp only [HNG.out] | (go_at_call 13; (with_reducible refine (HPR.out _ HB.out).mono ?_); rintro e w1 ⟨rfl, hb⟩; have HB := Aside0.mk hb; clear hb))
    · have hne : (!textW (wd (!sb x) (rk x)) == s.toList) = true := by assumption
      go_ret2
      exact ⟨0, 210, rfl, HFI.out.2 (by rw [← Lib.toList_data]; simpa using hne), HB.out⟩
    · have hne : (!textW (wd (!sb x) (rk x)) == s.toList) = false := by assumption
      go_ret2
      exact ⟨wd (!sb x) (rk x), 0, rfl, HFI.out.1 (by rw [← Lib.toList_data]; simpa using hne), HB.out⟩
end Go.Proofs.YtghnlhadohnenaaGreatDoor
