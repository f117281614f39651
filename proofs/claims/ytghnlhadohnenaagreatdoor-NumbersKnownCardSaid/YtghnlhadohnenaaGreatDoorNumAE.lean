/- Numbers: the laws Order, Least: the walks. -/
import Derived.Test.YtghnlhadohnenaaGreatDoorNumAD
namespace Go.Proofs.YtghnlhadohnenaaGreatDoor
set_option exponentiation.threshold 3000
open Go.Shelf Go.RowKit Go.Proofs.YtghnlhadohnenaaGreatDoorW.PrintWords Go.Proofs.YtghnlhadohnenaaGreatDoorW.PrintLast Go.Proofs.YtghnlhadohnenaaGreatDoorW.PrintMore
set_option linter.unusedVariables false
set_option linter.unusedSimpArgs false
theorem RowF.below {w W : World} {A : Option Addr} {l : List Nat} (h : RowF w A l) (hb : Below w.heap.size w W) : RowF W A l := fun h0 => by
  obtain ⟨ad, rfl, hc⟩ := h h0
  exact ⟨ad, rfl, fun j hj => (hb.cell (Lib.lt_of_cell (hc j hj))).trans (hc j hj)⟩
theorem pick_key {x y z z' : Nat} (h : key x = key y) (hz : key z = key z') : key (pick cmpK x z) = key (pick cmpK y z') := by
  unfold pick cmpK
  rw [h, hz]
  split <;> assumption
theorem fold_key : ∀ (t : List Nat) (x y : Nat), key x = key y → key (t.foldl (pick cmpK) x) = key (t.foldl (pick cmpK) y)
  | [], _, _, h => h
  | z :: t, x, y, h => fold_key t _ _ (pick_key h rfl)
theorem least_key (l : List Nat) {r0 : Nat} (h : nanB r0 = true) : cmpK (firstL cmpK 9221120237041090561 l) (l.foldl (pick cmpK) r0) = 0 := by
  rw [cmpK_zero]
  cases l with
  | nil => exact key_same (.inr ⟨by decide, h⟩)
  | cons x t =>
    refine fold_key t _ _ ?_
    unfold pick
    split
    · rfl
    · rename_i hc
      unfold cmpK at hc
      rw [key_nan h] at hc ⊢
      by_cases hn : nanB x = true
      · exact key_nan hn
      · have := key_lt (x := x) (by cases h : nanB x; rfl; exact absurd h hn)
        rcases cmpI_cases (key x) 9223372036854775808 with ⟨_, h⟩ | ⟨h, _⟩ | ⟨h, _⟩ <;> omega
theorem pick_turn : pick (fun a b => cmpK b a) = pickG := by
  funext x y
  unfold pick pickG
  have := cmpK_turn x y
  by_cases c : cmpK y x > 0
  · rw [if_pos c, if_pos (show (fun a b => cmpK b a) y x < 0 by show cmpK x y < 0; omega)]
  · rw [if_neg c, if_neg (show ¬ (fun a b => cmpK b a) y x < 0 by show ¬ cmpK x y < 0; omega)]
theorem greatest_key (l : List Nat) {r : Nat} (h : refG l r) : cmpK (firstL (fun a b => cmpK b a) 9221120237041090561 l) r = 0 := by
  rw [cmpK_zero]
  cases l with
  | nil => exact key_same (.inr ⟨by decide, h⟩)
  | cons x t =>
    have e : r = (x :: t).foldl pickG x := h
    rw [e]
    unfold firstL
    rw [pick_turn, List.foldl_cons]
    have : pickG x x = x := by unfold pickG; split <;> rfl
    rw [this]
theorem firstL_w (ord : Nat → Nat → Int) (l : List Nat) (hl : allW l) : firstL ord 9221120237041090561 l < 18446744073709551616 := by
  cases l with
  | nil => exact (by decide : (9221120237041090561 : Nat) < 18446744073709551616)
  | cons x t => exact fold_w ord t x (fun y hy => hl y (List.mem_cons_of_mem _ hy)) (hl x (List.mem_cons_self ..))
set_option maxHeartbeats 1000000 in
set_option maxRecDepth 100000 in
theorem law_Least (l : List Nat) (hl : allW l) (hml : l.length ≤ maxLen) (A : Option Addr) (c : Nat) (hc : l.length ≤ c) (w : World) (hr : RowF w A l) (hT : NTabs w) : Calls Tryz.prog 10 #[.slice A l.length c] w (LawE w) := by
  have HW := Aside0.mk (at_works hT)
  have HB := Aside0.mk (Below.refl w.heap.size w)
  by_cases h100 : 100 < l.length
  · simp only [At, AtQ] at HW
    unfold maxLen at hml
    clear hT hr
    go_enter Tryz.func10, Tryz.ntmps10
    go_wp2_with (go_at_call 12; (with_reducible refine (HW.out _ HB.out).mono ?_); rintro e w1 ⟨rfl, hb⟩; have HB := Aside0.mk hb; clear hb)
    go_ret
    exact ⟨rfl, HB.out⟩
  · have hle := firstL_w cmpK l hl
    have hge := firstL_w (fun a b => cmpK b a) l hl
    have HL : Aside0 (At w 26 #[.slice A l.length c] (.float .f64 (firstL cmpK 9221120237041090561 l))) := Aside0.mk (fun W hb => (Least_any l hl (by omega) A c hc W (hr.below hb)).mono fun e w' ⟨h1, h2⟩ => ⟨h1, by rw [h2]; exact hb⟩)
    have HG : Aside0 (At w 28 #[.slice A l.length c] (.float .f64 (firstL (fun a b => cmpK b a) 9221120237041090561 l))) := Aside0.mk (fun W hb => (Greatest_any l hl (by omega) A c hc W (hr.below hb)).mono fun e w' ⟨h1, h2⟩ => ⟨h1, by rw [h2]; exact hb⟩)
    have HRL : Aside0 (AtQ w 27 #[.slice A l.length c] (fun e => ∃ r, e = .returned (.float .f64 r) ∧ r < 18446744073709551616 ∧ cmpK (firstL cmpK 9221120237041090561 l) r = 0)) := Aside0.mk (fun W hb => (refLeast_any l hl (by omega) A c hc W (hr.below hb)).mono fun e w' ⟨r0, h1, h2, h3, h4⟩ => ⟨⟨_, h1, fold_w cmpK l r0 hl h2, least_key l h3⟩, by rw [h4]; exact hb.drew⟩)
    have HRG : Aside0 (AtQ w 29 #[.slice A l.length c] (fun e => ∃ r, e = .returned (.float .f64 r) ∧ r < 18446744073709551616 ∧ cmpK (firstL (fun a b => cmpK b a) 9221120237041090561 l) r = 0)) := Aside0.mk (fun W hb => (refGreatest_any l hl (by omega) A c hc W (hr.below hb)).mono fun e w' ⟨r, h1, h2, h3, h4⟩ => ⟨⟨r, h1, h2, greatest_key l h3⟩, hb.trans (h4.mono hb.size)⟩)
    generalize firstL cmpK 9221120237041090561 l = xl at *
    generalize firstL (fun a b => cmpK b a) 9221120237041090561 l = xg at *
    simp only [At, AtQ] at HW HL HG HRL HRG
    clear hT hr
    go_enter Tryz.func10, Tryz.ntmps10
    go_wp2_with (first | (go_at_call 26; (with_reducible refine (HL.out _ HB.out).mono ?_); rintro e w1 ⟨rfl, hb⟩; have HB := Aside0.mk hb; clear hb) | (go_at_call 27; (with_reducible refine (HRL.out _ HB.out).mono ?_); rintro e w1 ⟨⟨r, rfl, hr, hc0⟩, hb⟩; have HS := Aside0.mk (at_same (w := w) hle hr (decide_eq_true hc0)); simp only [At] at HS; have HB := Aside0.mk hb; clear hb hc0) | (go_at_call 20; (with_reducible (first | refine (HS.out _ HB.out).mono ?_ | refine (HS2.out _ HB.out).mono ?_)); rintro e w1 ⟨rfl, hb⟩; have HB := Aside0.mk hb; clear hb) | (go_at_call 28; (with_reducible refine (HG.out _ HB.out).mono ?_); rintro e w1 ⟨rfl, hb⟩; have HB := Aside0.mk hb; clear hb) | (go_at_call 29; (with_reducible refine (HRG.out _ HB.out).mono ?_); rintro e w1 ⟨⟨r2, rfl, hr2, hc0⟩, hb⟩; have HS2 := Aside0.mk (at_same (w := w) hge hr2 (decide_eq_true hc0)); simp only [At] at HS2; have HB := Aside0.mk hb; clear hb hc0) | (go_at_call 12; (with_reducible refine (HW.out _ HB.out).mono ?_); rintro e w1 ⟨rfl, hb⟩; have HB := Aside0.mk hb; clear hb))
    go_ret
    exact ⟨rfl, HB.out⟩
theorem cmp_three (x y : Nat) : (key x < key y ∧ cmpK x y = -1 ∧ cmpK y x = 1) ∨ (key x = key y ∧ cmpK x y = 0 ∧ cmpK y x = 0) ∨ (key y < key x ∧ cmpK x y = 1 ∧ cmpK y x = -1) := by
  have h := cmpK_turn y x
  rcases cmpI_cases (key x) (key y) with ⟨h1, h2⟩ | ⟨h1, h2⟩ | ⟨h1, h2⟩ <;> (have : cmpK x y = _ := h2; rw [this] at h)
  · exact .inl ⟨h1, this, h⟩
  · exact .inr (.inl ⟨h1, this, by simpa using h⟩)
  · exact .inr (.inr ⟨h1, this, h⟩)
theorem text_three {x y : Nat} (hx : x < 18446744073709551616) (hy : y < 18446744073709551616) : (textW x == textW y) = decide (cmpK x y = 0) := by
  rw [Bool.eq_iff_iff, beq_iff_eq, decide_eq_true_eq]
  exact (cmpK_text hx hy).symm
set_option maxHeartbeats 1000000 in
set_option maxRecDepth 100000 in
theorem order_walk (a b c : Nat) (ta tb : List UInt8) (w : World) (x y z nx : Int) (d : Bool) (hd : (ta == tb) = d) (h1 : At w 22 #[.float .f64 a, .float .f64 b] (.int .i64 x)) (h2 : At w 22 #[.float .f64 b, .float .f64 c] (.int .i64 y)) (h3 : At w 22 #[.float .f64 a, .float .f64 c] (.int .i64 z)) (h4 : At w 22 #[.float .f64 b, .float .f64 a] (.int .i64 nx))
    (h5 : At w 13 #[.float .f64 a] (.string ⟨ta.toArray⟩)) (h6 : At w 13 #[.float .f64 b] (.string ⟨tb.toArray⟩)) (h7 : At w 20 #[.float .f64 a, .float .f64 b] (.bool d)) (hw : At w 12 #[] (.bool true))
    (hc : (x = -1 ∧ nx = 1 ∧ d = false ∧ ((y = -1 ∧ z = -1) ∨ (y = 0 ∧ z = -1) ∨ (y = 1 ∧ (z = -1 ∨ z = 0 ∨ z = 1)))) ∨ (x = 0 ∧ nx = 0 ∧ d = true ∧ ((y = -1 ∧ z = -1) ∨ (y = 0 ∧ z = 0) ∨ (y = 1 ∧ z = 1))) ∨ (x = 1 ∧ nx = -1 ∧ d = false ∧ (y = -1 ∨ y = 0 ∨ y = 1) ∧ (z = -1 ∨ z = 0 ∨ z = 1))) :
    Calls Tryz.prog 8 #[.float .f64 a, .float .f64 b, .float .f64 c] w (LawE w) := by
  have HW := Aside0.mk hw
  have H1 := Aside0.mk h1
  have H2 := Aside0.mk h2
  have H3 := Aside0.mk h3
  have H4 := Aside0.mk h4
  have H5 := Aside0.mk h5
  have H6 := Aside0.mk h6
  have H7 := Aside0.mk h7
  have HB := Aside0.mk (Below.refl w.heap.size w)
  simp only [At] at HW H1 H2 H3 H4 H5 H6 H7
  clear hw h1 h2 h3 h4 h5 h6 h7
  rcases hc with ⟨rfl, rfl, rfl, hc⟩ | ⟨rfl, rfl, rfl, hc⟩ | ⟨rfl, rfl, rfl, hc, hc'⟩
  · rcases hc with ⟨rfl, rfl⟩ | ⟨rfl, rfl⟩ | ⟨rfl, rfl | rfl | rfl⟩
    all_goals
      go_enter Tryz.func8, Tryz.ntmps8
      go_wp2_with (first | (go_at_call 22; (with_reducible (first | refine (H1.out _ HB.out).mono ?_ | refine (H2.out _ HB.out).mono ?_ | refine (H3.out _ HB.out).mono ?_ | refine (H4.out _ HB.out).mono ?_)); rintro e w1 ⟨rfl, hb⟩; have HB := Aside0.mk hb; clear hb) | (go_at_call 13; (with_reducible (first | refine (H5.out _ HB.out).mono ?_ | refine (H6.out _ HB.out).mono ?_)); rintro e w1 ⟨rfl, hb⟩; have HB := Aside0.mk hb; clear hb) | (go_at_call 20; (with_reducible refine (H7.out _ HB.out).mono ?_); rintro e w1 ⟨rfl, hb⟩; have HB := Aside0.mk hb; clear hb) | (go_at_call 12; (with_reducible refine (HW.out _ HB.out).mono ?_); rintro e w1 ⟨rfl, hb⟩; have HB := Aside0.mk hb; clear hb))
      go_ret
      exact ⟨rfl, HB.out⟩
  · rcases hc with ⟨rfl, rfl⟩ | ⟨rfl, rfl⟩ | ⟨rfl, rfl⟩
    all_goals
      go_enter Tryz.func8, Tryz.ntmps8
      go_wp2_with (first | (go_at_call 22; (with_reducible (first | refine (H1.out _ HB.out).mono ?_ | refine (H2.out _ HB.out).mono ?_ | refine (H3.out _ HB.out).mono ?_ | refine (H4.out _ HB.out).mono ?_)); rintro e w1 ⟨rfl, hb⟩; have HB := Aside0.mk hb; clear hb) | (go_at_call 13; (with_reducible (first | refine (H5.out _ HB.out).mono ?_ | refine (H6.out _ HB.out).mono ?_)); rintro e w1 ⟨rfl, hb⟩; have HB := Aside0.mk hb; clear hb) | (go_at_call 20; (with_reducible refine (H7.out _ HB.out).mono ?_); rintro e w1 ⟨rfl, hb⟩; have HB := Aside0.mk hb; clear hb) | (go_at_call 12; (with_reducible refine (HW.out _ HB.out).mono ?_); rintro e w1 ⟨rfl, hb⟩; have HB := Aside0.mk hb; clear hb))
      go_ret
      exact ⟨rfl, HB.out⟩
  · rcases hc with rfl | rfl | rfl <;> rcases hc' with rfl | rfl | rfl
    all_goals
      go_enter Tryz.func8, Tryz.ntmps8
      go_wp2_with (first | (go_at_call 22; (with_reducible (first | refine (H1.out _ HB.out).mono ?_ | refine (H2.out _ HB.out).mono ?_ | refine (H3.out _ HB.out).mono ?_ | refine (H4.out _ HB.out).mono ?_)); rintro e w1 ⟨rfl, hb⟩; have HB := Aside0.mk hb; clear hb) | (go_at_call 13; (with_reducible (first | refine (H5.out _ HB.out).mono ?_ | refine (H6.out _ HB.out).mono ?_)); rintro e w1 ⟨rfl, hb⟩; have HB := Aside0.mk hb; clear hb) | (go_at_call 20; (with_reducible refine (H7.out _ HB.out).mono ?_); rintro e w1 ⟨rfl, hb⟩; have HB := Aside0.mk hb; clear hb) | (go_at_call 12; (with_reducible refine (HW.out _ HB.out).mono ?_); rintro e w1 ⟨rfl, hb⟩; have HB := Aside0.mk hb; clear hb))
      go_ret
      exact ⟨rfl, HB.out⟩
theorem law_Order (a b c : Nat) (ha : a < 18446744073709551616) (hb : b < 18446744073709551616) (hc : c < 18446744073709551616) (w : World) (hT : NTabs w) : Calls Tryz.prog 8 #[.float .f64 a, .float .f64 b, .float .f64 c] w (LawE w) := by
  refine order_walk a b c (textW a) (textW b) w (cmpK a b) (cmpK b c) (cmpK a c) (cmpK b a) (decide (cmpK a b = 0)) (text_three ha hb) (at_cmp ha hb rfl) (at_cmp hb hc rfl) (at_cmp ha hc rfl) (at_cmp hb ha rfl) (at_printW hT ha) (at_printW hT hb) (at_same ha hb rfl) (at_works hT) ?_
  rcases cmp_three a b with ⟨p1, p2, p3⟩ | ⟨p1, p2, p3⟩ | ⟨p1, p2, p3⟩ <;> rcases cmp_three b c with ⟨q1, q2, q3⟩ | ⟨q1, q2, q3⟩ | ⟨q1, q2, q3⟩ <;> rcases cmp_three a c with ⟨r1, r2, r3⟩ | ⟨r1, r2, r3⟩ | ⟨r1, r2, r3⟩ <;> rw [p2, p3, q2, r2] <;> first | (exfalso; omega) | simp
end Go.Proofs.YtghnlhadohnenaaGreatDoor
