-- Laid by a program of this session (wip/tools/pgiven.py) out of the seat's translation. Lean checks it.
import Derived.Test.YtnbmdecehlljcaaGreatDoorPRqx0
import Derived.Test.YtnbmdecehlljcaaGreatDoorPRqx2
namespace Go.Proofs.YtnbmdecehlljcaaGreatDoor.PRq
open Go.RowKit Go.Proofs.YtnbmdecehlljcaaGreatDoorW.PrintWords Go.Proofs.YtnbmdecehlljcaaGreatDoorW.PrintLast Go.Proofs.YtnbmdecehlljcaaGreatDoorW.PrintMore
attribute [local go_sem] max2_int min2_int max_two min_two max_three min_three max_four min_four   -- for this text's walks alone
set_option linter.unusedVariables false
set_option linter.unusedSimpArgs false

attribute [local go_sem high] eqA59
attribute [local go_sem] isSome_setCellV
/-! ### tithebarnkit_SameRange: function 24 -/
mutual
def tithebarnkit_SameRange.l0 : Nat → List (List (S59)) → List (List (S59)) → Int → Option (Bool)
 | 0, _, _, _ => none
 | k + 1, x0, x1, x5 => if x5 < (x0.length : Int) then (if 0 ≤ x5 then (if x5 < (x1.length : Int) then (if ((rd_L4 x0 x5).length : Int) = ((rd_L4 x1 x5).length : Int) then (tithebarnkit_SameRange.l1 k x0 x1 x5 0) else (some false)) else (none)) else (none)) else (some true)
def tithebarnkit_SameRange.l1 : Nat → List (List (S59)) → List (List (S59)) → Int → Int → Option (Bool)
 | 0, _, _, _, _ => none
 | k + 1, x0, x1, x5, x6 => if 0 ≤ x5 then (if x5 < (x0.length : Int) then (if x6 < ((rd_L4 x0 x5).length : Int) then (if 0 ≤ x6 then (if x5 < (x1.length : Int) then (if x6 < ((rd_L4 x1 x5).length : Int) then (if (!(((rd_T59 (rd_L4 x0 x5) x6).f0) == ((rd_T59 (rd_L4 x1 x5) x6).f0)) || (!((((rd_T59 (rd_L4 x0 x5) x6).f1).toList) == (((rd_T59 (rd_L4 x1 x5) x6).f1).toList)))) = true then (some false) else (tithebarnkit_SameRange.l1 k x0 x1 x5 (wrap64 (x6 + 1)))) else (none)) else (none)) else (none)) else (tithebarnkit_SameRange.l0 k x0 x1 (wrap64 (x5 + 1)))) else (none)) else (none)
end
def tithebarnkit_SameRange.f (k : Nat) (l0 : List (List (S59))) (l1 : List (List (S59))) : Option (Bool) := if (l0.length : Int) = (l1.length : Int) then (tithebarnkit_SameRange.l0 k l0 l1 0) else (some false)
theorem tithebarnkit_SameRange.mono_l : ∀ k, (∀ y0 y1 y2, LeO (tithebarnkit_SameRange.l0 k y0 y1 y2) (tithebarnkit_SameRange.l0 (k + 1) y0 y1 y2)) ∧ (∀ y0 y1 y2 y3, LeO (tithebarnkit_SameRange.l1 k y0 y1 y2 y3) (tithebarnkit_SameRange.l1 (k + 1) y0 y1 y2 y3))
 | 0 => ⟨fun _ _ _ r h => by simp [tithebarnkit_SameRange.l0] at h, fun _ _ _ _ r h => by simp [tithebarnkit_SameRange.l1] at h⟩
 | k + 1 => by
  obtain ⟨ih0, ih1⟩ := tithebarnkit_SameRange.mono_l k
  refine ⟨?_, ?_⟩
  · intro y0 y1 y2
    unfold tithebarnkit_SameRange.l0
    repeat' first
    | (with_reducible exact ih0 _ _ _)
    | (with_reducible exact ih1 _ _ _ _)
    | (with_reducible exact LeO.refl _)
    | (with_reducible exact LeO.none _)
    | (with_reducible refine LeO.ite ?_ ?_)
    | (with_reducible refine LeO.bind ?_ (fun _ => ?_))
    | exact ih0 _ _ _
    | exact ih1 _ _ _ _
    | exact LeO.none _
    | refine LeO.ite ?_ ?_
    | refine LeO.bind ?_ (fun _ => ?_)
  · intro y0 y1 y2 y3
    unfold tithebarnkit_SameRange.l1
    repeat' first
    | (with_reducible exact ih0 _ _ _)
    | (with_reducible exact ih1 _ _ _ _)
    | (with_reducible exact LeO.refl _)
    | (with_reducible exact LeO.none _)
    | (with_reducible refine LeO.ite ?_ ?_)
    | (with_reducible refine LeO.bind ?_ (fun _ => ?_))
    | exact ih0 _ _ _
    | exact ih1 _ _ _ _
    | exact LeO.none _
    | refine LeO.ite ?_ ?_
    | refine LeO.bind ?_ (fun _ => ?_)
theorem tithebarnkit_SameRange.mono : ∀ a0 a1 k, LeO (tithebarnkit_SameRange.f k a0 a1) (tithebarnkit_SameRange.f (k + 1) a0 a1) := by
 intro a0 a1 k
 obtain ⟨ih0, ih1⟩ := tithebarnkit_SameRange.mono_l k
 unfold tithebarnkit_SameRange.f
 repeat' first
  | (with_reducible exact ih0 _ _ _)
  | (with_reducible exact ih1 _ _ _ _)
  | (with_reducible exact LeO.refl _)
  | (with_reducible exact LeO.none _)
  | (with_reducible refine LeO.ite ?_ ?_)
  | (with_reducible refine LeO.bind ?_ (fun _ => ?_))
  | exact ih0 _ _ _
  | exact ih1 _ _ _ _
  | exact LeO.none _
  | refine LeO.ite ?_ ?_
  | refine LeO.bind ?_ (fun _ => ?_)
set_option maxHeartbeats 8000000 in
set_option maxRecDepth 100000 in
theorem tithebarnkit_SameRange.calls (k : Nat) (A0 : Option Addr) (c0 : Nat) (l0 : List (List (S59))) (A1 : Option Addr) (c1 : Nat) (l1 : List (List (S59))) (r : Bool) (w : World) (hr0 : Kd.C (Kd.slice 59 k59) w A0 l0.length l0) (hc0 : l0.length ≤ c0) (hr1 : Kd.C (Kd.slice 59 k59) w A1 l1.length l1) (hc1 : l1.length ≤ c1) (h : tithebarnkit_SameRange.f k l0 l1 = some r) :
 Calls Tryz.prog 24 #[.slice A0 l0.length c0, .slice A1 l1.length c1] w fun e w' => e = .returned (.bool r) ∧ Drawn0 w w' := by
 have hu59 := Tryz.underlying59
 have HR0 := Aside0.mk hr0
 have HC0 := Aside0.mk hc0
 clear hr0 hc0
 have HR1 := Aside0.mk hr1
 have HC1 := Aside0.mk hc1
 clear hr1 hc1
 have H : (if (l0.length : Int) = (l1.length : Int) then (tithebarnkit_SameRange.l0 k l0 l1 0) else (some false)) = some r := h
 clear h
 by_cases c3 : (l0.length : Int) = (l1.length : Int)
 rotate_left
 · rw [if_neg c3] at H
   have c3b0 : ((l0.length : Int) == (l1.length : Int)) = false := beq_eq_false_iff_ne.mpr c3
   have c3b1 : ((l0.length : Int) != (l1.length : Int)) = true := bne_iff_ne.mpr c3
   have c3b2 : (l0.length == l1.length) = false := by first | simpa using c3 | (simp at c3 ⊢; omega)
   obtain rfl := Option.some.inj H
   go_enter Tryz.func24, Tryz.ntmps24
   go_wp2
   repeat (go_quiet (fail); try go_wp2)
   go_ret
   exact ⟨by first | rfl | (simp; done) | (simp [*]; done), by repeat (first | exact Drawn0.refl _ | apply Drawn0.step)⟩

 rw [if_pos c3] at H
 have c3b0 : ((l0.length : Int) == (l1.length : Int)) = true := beq_iff_eq.mpr c3
 have c3b1 : ((l0.length : Int) != (l1.length : Int)) = false := bne_eq_false_iff_eq.mpr c3
 have c3b2 : (l0.length == l1.length) = true := by first | simpa using c3 | (simp at c3 ⊢; omega)
 clear c3
 have H' := Aside0.mk H
 clear H
 go_enter Tryz.func24, Tryz.ntmps24
 go_wp2
 repeat (go_quiet (fail); try go_wp2)
 go_loopg [5] k (fun kq v5 w' => ∃ (x5_1 : Int), v5 = .int .i64 x5_1 ∧ Aside0 (tithebarnkit_SameRange.l0 kq l0 l1 x5_1 = some r) ∧ Aside0 (kq ≤ k) ∧ Drawn0 w w')
 case atStart => exact ⟨(0), rf, H', ⟨Nat.le_refl _⟩, by repeat (first | exact Drawn0.refl _ | apply Drawn0.step)⟩
 case round =>
  clear H'
  try clear c1
  try clear c2
  try clear p2
  try clear c3
  try clear c3b0
  try clear c3b1
  try clear c3b2
  obtain ⟨x5_1, rfl, HA, HK1, ⟨m1, rfl⟩⟩ := hrel
  cases gk with
  | zero => exact absurd HA.out (by simp [tithebarnkit_SameRange.l0])
  | succ k1 =>
   have H := HA.out
   clear HA
   simp only [tithebarnkit_SameRange.l0] at H
   by_cases c4 : x5_1 < (l0.length : Int)
   rotate_left
   · rw [if_neg c4] at H
     have c4b0 : decide (x5_1 < (l0.length : Int)) = false := decide_eq_false c4
     clear c4
     obtain rfl := Option.some.inj H
     go_wp2
     repeat (go_quiet (fail); try go_wp2)
     go_ret
     exact ⟨by first | rfl | (simp; done) | (simp [*]; done), by repeat (first | exact Drawn0.refl _ | apply Drawn0.step)⟩
   rw [if_pos c4] at H
   have c4b0 : decide (x5_1 < (l0.length : Int)) = true := decide_eq_true c4
   clear c4
   by_cases c5 : 0 ≤ x5_1
   rotate_left
   · rw [if_neg c5] at H
     exact absurd H (by simp)
   rw [if_pos c5] at H
   have c5b0 : decide (0 ≤ x5_1) = true := decide_eq_true c5
   clear c5
   by_cases c6 : x5_1 < (l1.length : Int)
   rotate_left
   · rw [if_neg c6] at H
     exact absurd H (by simp)
   rw [if_pos c6] at H
   have c6b0 : decide (x5_1 < (l1.length : Int)) = true := decide_eq_true c6
   clear c6
   by_cases c7 : ((rd_L4 l0 x5_1).length : Int) = ((rd_L4 l1 x5_1).length : Int)
   rotate_left
   · rw [if_neg c7] at H
     have c7b0 : (((rd_L4 l0 x5_1).length : Int) == ((rd_L4 l1 x5_1).length : Int)) = false := beq_eq_false_iff_ne.mpr c7
     have c7b1 : (((rd_L4 l0 x5_1).length : Int) != ((rd_L4 l1 x5_1).length : Int)) = true := bne_iff_ne.mpr c7
     have c7b2 : ((rd_L4 l0 x5_1).length == (rd_L4 l1 x5_1).length) = false := by first | simpa using c7 | (simp at c7 ⊢; omega)
     obtain rfl := Option.some.inj H
     have p159 : 0 ≤ (x5_1 : Int) := da
     have q159 : x5_1 < (l0.length : Int) := da
     obtain ⟨ad159, A159_0, c159_0, e159, hx159_0, hl159_0, hi159_0⟩ := at_L4 HR0.out x5_1 p159 q159
     cases e159
     have HR159_0 := Aside0.mk hi159_0
     have HC159_0 := Aside0.mk hl159_0
     clear hi159_0 hl159_0
     replace p159 := eq_true p159
     replace q159 := eq_true q159
     have p160 : 0 ≤ (x5_1 : Int) := da
     have q160 : x5_1 < (l1.length : Int) := da
     obtain ⟨ad160, A160_0, c160_0, e160, hx160_0, hl160_0, hi160_0⟩ := at_L4 HR1.out x5_1 p160 q160
     cases e160
     have HR160_0 := Aside0.mk hi160_0
     have HC160_0 := Aside0.mk hl160_0
     clear hi160_0 hl160_0
     replace p160 := eq_true p160
     replace q160 := eq_true q160
     go_wp2
     repeat (go_quiet (fail); try go_wp2)
     go_ret
     exact ⟨by first | rfl | (simp; done) | (simp [*]; done), by repeat (first | exact Drawn0.refl _ | apply Drawn0.step)⟩
   rw [if_pos c7] at H
   have c7b0 : (((rd_L4 l0 x5_1).length : Int) == ((rd_L4 l1 x5_1).length : Int)) = true := beq_iff_eq.mpr c7
   have c7b1 : (((rd_L4 l0 x5_1).length : Int) != ((rd_L4 l1 x5_1).length : Int)) = false := bne_eq_false_iff_eq.mpr c7
   have c7b2 : ((rd_L4 l0 x5_1).length == (rd_L4 l1 x5_1).length) = true := by first | simpa using c7 | (simp at c7 ⊢; omega)
   clear c7
   have H' := Aside0.mk H
   clear H
   have p159 : 0 ≤ (x5_1 : Int) := da
   have q159 : x5_1 < (l0.length : Int) := da
   obtain ⟨ad159, A159_0, c159_0, e159, hx159_0, hl159_0, hi159_0⟩ := at_L4 HR0.out x5_1 p159 q159
   cases e159
   have HR159_0 := Aside0.mk hi159_0
   have HC159_0 := Aside0.mk hl159_0
   clear hi159_0 hl159_0
   replace p159 := eq_true p159
   replace q159 := eq_true q159
   have p160 : 0 ≤ (x5_1 : Int) := da
   have q160 : x5_1 < (l1.length : Int) := da
   obtain ⟨ad160, A160_0, c160_0, e160, hx160_0, hl160_0, hi160_0⟩ := at_L4 HR1.out x5_1 p160 q160
   cases e160
   have HR160_0 := Aside0.mk hi160_0
   have HC160_0 := Aside0.mk hl160_0
   clear hi160_0 hl160_0
   replace p160 := eq_true p160
   replace q160 := eq_true q160
   go_wp2
   repeat (go_quiet (fail); try go_wp2)
   go_loopg [6] k1 (fun kq v6 w' => ∃ (x6_2 : Int), v6 = .int .i64 x6_2 ∧ Aside0 (tithebarnkit_SameRange.l1 kq l0 l1 x5_1 x6_2 = some r) ∧ Aside0 (kq ≤ k1) ∧ Drawn0 w w')
   case atStart => exact ⟨(0), rf, H', ⟨Nat.le_refl _⟩, by repeat (first | exact Drawn0.refl _ | apply Drawn0.step)⟩
   case round =>
    clear H'
    try clear c1
    try clear p1
    try clear q1
    try clear hx1
    try clear c2
    try clear p2
    try clear c3
    try clear c3b0
    try clear c3b1
    try clear c3b2
    try clear c4
    try clear c4b0
    try clear c5
    try clear c5b0
    try clear c6
    try clear c6b0
    try clear c7
    try clear c7b0
    try clear c7b1
    try clear c7b2
    try clear hx159_0
    try clear hx160_0
    try clear p159
    try clear p160
    try clear p2
    try clear q159
    try clear q160
    obtain ⟨x6_2, rfl, HA, HK2, ⟨m2, rfl⟩⟩ := hrel
    cases gk with
    | zero => exact absurd HA.out (by simp [tithebarnkit_SameRange.l1])
    | succ k2 =>
     have H := HA.out
     clear HA
     simp only [tithebarnkit_SameRange.l1] at H
     by_cases c8 : 0 ≤ x5_1
     rotate_left
     · rw [if_neg c8] at H
       exact absurd H (by simp)
     rw [if_pos c8] at H
     have c8b0 : decide (0 ≤ x5_1) = true := decide_eq_true c8
     clear c8
     by_cases c9 : x5_1 < (l0.length : Int)
     rotate_left
     · rw [if_neg c9] at H
       exact absurd H (by simp)
     rw [if_pos c9] at H
     have c9b0 : decide (x5_1 < (l0.length : Int)) = true := decide_eq_true c9
     clear c9
     by_cases c10 : x6_2 < ((rd_L4 l0 x5_1).length : Int)
     rotate_left
     · rw [if_neg c10] at H
       have c10b0 : decide (x6_2 < ((rd_L4 l0 x5_1).length : Int)) = false := decide_eq_false c10
       clear c10
       have H' := Aside0.mk H
       clear H
       have p161 : 0 ≤ (x5_1 : Int) := da
       have q161 : x5_1 < (l0.length : Int) := da
       obtain ⟨ad161, A161_0, c161_0, e161, hx161_0, hl161_0, hi161_0⟩ := at_L4 HR0.out x5_1 p161 q161
       obtain rfl : ad159 = ad161 := (by injection e161)
       have HR161_0 := Aside0.mk hi161_0
       have HC161_0 := Aside0.mk hl161_0
       clear hi161_0 hl161_0
       replace p161 := eq_true p161
       replace q161 := eq_true q161
       go_wp2
       repeat (go_quiet (fail); try go_wp2)
       go_roundg k2
       case measure => have := HK1.out; have := HK2.out; omega
       case rel => exact ⟨(wrap64 (x5_1 + 1)), rf, H', ⟨by have := HK1.out; have := HK2.out; omega⟩, by repeat (first | exact Drawn0.refl _ | apply Drawn0.step)⟩
     rw [if_pos c10] at H
     have c10b0 : decide (x6_2 < ((rd_L4 l0 x5_1).length : Int)) = true := decide_eq_true c10
     clear c10
     by_cases c11 : 0 ≤ x6_2
     rotate_left
     · rw [if_neg c11] at H
       exact absurd H (by simp)
     rw [if_pos c11] at H
     have c11b0 : decide (0 ≤ x6_2) = true := decide_eq_true c11
     clear c11
     by_cases c12 : x5_1 < (l1.length : Int)
     rotate_left
     · rw [if_neg c12] at H
       exact absurd H (by simp)
     rw [if_pos c12] at H
     have c12b0 : decide (x5_1 < (l1.length : Int)) = true := decide_eq_true c12
     clear c12
     by_cases c13 : x6_2 < ((rd_L4 l1 x5_1).length : Int)
     rotate_left
     · rw [if_neg c13] at H
       exact absurd H (by simp)
     rw [if_pos c13] at H
     have c13b0 : decide (x6_2 < ((rd_L4 l1 x5_1).length : Int)) = true := decide_eq_true c13
     clear c13
     by_cases c14 : (!(((rd_T59 (rd_L4 l0 x5_1) x6_2).f0) == ((rd_T59 (rd_L4 l1 x5_1) x6_2).f0)) || (!((((rd_T59 (rd_L4 l0 x5_1) x6_2).f1).toList) == (((rd_T59 (rd_L4 l1 x5_1) x6_2).f1).toList)))) = true
     · rw [if_pos c14] at H
       have c14b0 : (!(((rd_T59 (rd_L4 l0 x5_1) x6_2).f0) == ((rd_T59 (rd_L4 l1 x5_1) x6_2).f0)) || (!((((rd_T59 (rd_L4 l0 x5_1) x6_2).f1).toList) == (((rd_T59 (rd_L4 l1 x5_1) x6_2).f1).toList)))) = true := c14
       clear c14
       obtain rfl := Option.some.inj H
       have p161 : 0 ≤ (x5_1 : Int) := da
       have q161 : x5_1 < (l0.length : Int) := da
       obtain ⟨ad161, A161_0, c161_0, e161, hx161_0, hl161_0, hi161_0⟩ := at_L4 HR0.out x5_1 p161 q161
       obtain rfl : ad159 = ad161 := (by injection e161)
       have HR161_0 := Aside0.mk hi161_0
       have HC161_0 := Aside0.mk hl161_0
       clear hi161_0 hl161_0
       replace p161 := eq_true p161
       replace q161 := eq_true q161
       have p162 : 0 ≤ (x5_1 : Int) := da
       have q162 : x5_1 < (l0.length : Int) := da
       obtain ⟨ad162, A162_0, c162_0, e162, hx162_0, hl162_0, hi162_0⟩ := at_L4 HR0.out x5_1 p162 q162
       obtain rfl : ad159 = ad162 := (by injection e162)
       have HR162_0 := Aside0.mk hi162_0
       have HC162_0 := Aside0.mk hl162_0
       clear hi162_0 hl162_0
       replace p162 := eq_true p162
       replace q162 := eq_true q162
       have ea_ := Option.some.inj (hx161_0.symm.trans hx162_0)
       injection ea_ with ea_ en_ ec_
       subst ea_
       subst ec_
       clear en_
       have p163 : 0 ≤ (x6_2 : Int) := da
       have q163 : x6_2 < ((rd_L4 l0 x5_1).length : Int) := da
       obtain ⟨ad163, e163, hx163_0, hx163_1⟩ := at_T59 HR162_0.out x6_2 p163 q163
       cases e163
       replace p163 := eq_true p163
       replace q163 := eq_true q163
       have p164 : 0 ≤ (x5_1 : Int) := da
       have q164 : x5_1 < (l1.length : Int) := da
       obtain ⟨ad164, A164_0, c164_0, e164, hx164_0, hl164_0, hi164_0⟩ := at_L4 HR1.out x5_1 p164 q164
       obtain rfl : ad160 = ad164 := (by injection e164)
       have HR164_0 := Aside0.mk hi164_0
       have HC164_0 := Aside0.mk hl164_0
       clear hi164_0 hl164_0
       replace p164 := eq_true p164
       replace q164 := eq_true q164
       have p165 : 0 ≤ (x6_2 : Int) := da
       have q165 : x6_2 < ((rd_L4 l1 x5_1).length : Int) := da
       obtain ⟨ad165, e165, hx165_0, hx165_1⟩ := at_T59 HR164_0.out x6_2 p165 q165
       cases e165
       replace p165 := eq_true p165
       replace q165 := eq_true q165
       go_wp2
       repeat (go_quiet (fail); try go_wp2)
       go_ret
       exact ⟨by first | rfl | (simp; done) | (simp [*]; done), by repeat (first | exact Drawn0.refl _ | apply Drawn0.step)⟩
     rw [if_neg c14] at H
     have c14b0 : (!(((rd_T59 (rd_L4 l0 x5_1) x6_2).f0) == ((rd_T59 (rd_L4 l1 x5_1) x6_2).f0)) || (!((((rd_T59 (rd_L4 l0 x5_1) x6_2).f1).toList) == (((rd_T59 (rd_L4 l1 x5_1) x6_2).f1).toList)))) = false := by simpa using c14
     clear c14
     have H' := Aside0.mk H
     clear H
     have p161 : 0 ≤ (x5_1 : Int) := da
     have q161 : x5_1 < (l0.length : Int) := da
     obtain ⟨ad161, A161_0, c161_0, e161, hx161_0, hl161_0, hi161_0⟩ := at_L4 HR0.out x5_1 p161 q161
     obtain rfl : ad159 = ad161 := (by injection e161)
     have HR161_0 := Aside0.mk hi161_0
     have HC161_0 := Aside0.mk hl161_0
     clear hi161_0 hl161_0
     replace p161 := eq_true p161
     replace q161 := eq_true q161
     have p162 : 0 ≤ (x5_1 : Int) := da
     have q162 : x5_1 < (l0.length : Int) := da
     obtain ⟨ad162, A162_0, c162_0, e162, hx162_0, hl162_0, hi162_0⟩ := at_L4 HR0.out x5_1 p162 q162
     obtain rfl : ad159 = ad162 := (by injection e162)
     have HR162_0 := Aside0.mk hi162_0
     have HC162_0 := Aside0.mk hl162_0
     clear hi162_0 hl162_0
     replace p162 := eq_true p162
     replace q162 := eq_true q162
     have ea_ := Option.some.inj (hx161_0.symm.trans hx162_0)
     injection ea_ with ea_ en_ ec_
     subst ea_
     subst ec_
     clear en_
     have p163 : 0 ≤ (x6_2 : Int) := da
     have q163 : x6_2 < ((rd_L4 l0 x5_1).length : Int) := da
     obtain ⟨ad163, e163, hx163_0, hx163_1⟩ := at_T59 HR162_0.out x6_2 p163 q163
     cases e163
     replace p163 := eq_true p163
     replace q163 := eq_true q163
     have p164 : 0 ≤ (x5_1 : Int) := da
     have q164 : x5_1 < (l1.length : Int) := da
     obtain ⟨ad164, A164_0, c164_0, e164, hx164_0, hl164_0, hi164_0⟩ := at_L4 HR1.out x5_1 p164 q164
     obtain rfl : ad160 = ad164 := (by injection e164)
     have HR164_0 := Aside0.mk hi164_0
     have HC164_0 := Aside0.mk hl164_0
     clear hi164_0 hl164_0
     replace p164 := eq_true p164
     replace q164 := eq_true q164
     have p165 : 0 ≤ (x6_2 : Int) := da
     have q165 : x6_2 < ((rd_L4 l1 x5_1).length : Int) := da
     obtain ⟨ad165, e165, hx165_0, hx165_1⟩ := at_T59 HR164_0.out x6_2 p165 q165
     cases e165
     replace p165 := eq_true p165
     replace q165 := eq_true q165
     go_wp2
     repeat (go_quiet (fail); try go_wp2)
     go_roundg k2
     case measure => have := HK1.out; have := HK2.out; omega
     case rel => exact ⟨(wrap64 (x6_2 + 1)), rf, H', ⟨by have := HK1.out; have := HK2.out; omega⟩, by repeat (first | exact Drawn0.refl _ | apply Drawn0.step)⟩
end Go.Proofs.YtnbmdecehlljcaaGreatDoor.PRq
