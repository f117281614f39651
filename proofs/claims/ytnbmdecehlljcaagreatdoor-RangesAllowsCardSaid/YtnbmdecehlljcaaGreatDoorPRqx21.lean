-- Laid by a program of this session (wip/tools/pgiven.py) out of the seat's translation. Lean checks it.
import Derived.Test.YtnbmdecehlljcaaGreatDoorPRqx0
import Derived.Test.YtnbmdecehlljcaaGreatDoorPRqx20
namespace Go.Proofs.YtnbmdecehlljcaaGreatDoor.PRq
open Go.RowKit Go.Proofs.YtnbmdecehlljcaaGreatDoorW.PrintWords Go.Proofs.YtnbmdecehlljcaaGreatDoorW.PrintLast Go.Proofs.YtnbmdecehlljcaaGreatDoorW.PrintMore
attribute [local go_sem] max2_int min2_int max_two min_two max_three min_three max_four min_four   -- for this text's walks alone
set_option linter.unusedVariables false
set_option linter.unusedSimpArgs false

attribute [local go_sem] isSome_setCellV
/-! ### ranges_Best: function 30 -/
def ranges_Best.l0 : Nat → List (List (S59)) → List ByteArray → Int → List ByteArray → Int → Int → Option (Int)
 | 0, _, _, _, _, _, _ => none
 | k + 1, x0, x1, x5, x10, x11, x12 => if x12 < x11 then (if 0 ≤ x12 then (if x12 < (x10.length : Int) then ((ranges_Allows.f x0 (rdOf ByteArray.empty x10 x12)).bind fun t283 => (if t283 = true then (if x5 ≥ 0 then (if 0 ≤ x5 then (if x5 < (x1.length : Int) then ((version_Texts.f (rdOf ByteArray.empty x10 x12) (rdOf ByteArray.empty x1 x5)).bind fun bt285 => (if bt285.1 ≤ 0 then (ranges_Best.l0 k x0 x1 x5 x10 x11 (wrap64 (x12 + 1))) else (ranges_Best.l0 k x0 x1 x12 x10 x11 (wrap64 (x12 + 1))))) else (none)) else (none)) else (ranges_Best.l0 k x0 x1 x12 x10 x11 (wrap64 (x12 + 1)))) else (ranges_Best.l0 k x0 x1 x5 x10 x11 (wrap64 (x12 + 1))))) else (none)) else (none)) else (some x5)
def ranges_Best.f (k : Nat) (l0 : List (List (S59))) (l1 : List ByteArray) : Option (Int) := ranges_Best.l0 k l0 l1 (-1) l1 (l1.length : Int) 0
theorem ranges_Best.mono_l : ∀ k, (∀ y0 y1 y2 y3 y4 y5, LeO (ranges_Best.l0 k y0 y1 y2 y3 y4 y5) (ranges_Best.l0 (k + 1) y0 y1 y2 y3 y4 y5))
 | 0 => fun _ _ _ _ _ _ r h => by simp [ranges_Best.l0] at h
 | k + 1 => by
  have ih0 := ranges_Best.mono_l k
  · intro y0 y1 y2 y3 y4 y5
    unfold ranges_Best.l0
    repeat' first
    | (with_reducible exact ih0 _ _ _ _ _ _)
    | (with_reducible exact LeO.refl _)
    | (with_reducible exact LeO.none _)
    | (with_reducible refine LeO.ite ?_ ?_)
    | (with_reducible refine LeO.bind ?_ (fun _ => ?_))
    | exact ih0 _ _ _ _ _ _
    | exact LeO.none _
    | refine LeO.ite ?_ ?_
    | refine LeO.bind ?_ (fun _ => ?_)
theorem ranges_Best.mono : ∀ a0 a1 k, LeO (ranges_Best.f k a0 a1) (ranges_Best.f (k + 1) a0 a1) := by
 intro a0 a1 k
 have ih0 := ranges_Best.mono_l k
 unfold ranges_Best.f
 repeat' first
  | (with_reducible exact ih0 _ _ _ _ _ _)
  | (with_reducible exact LeO.refl _)
  | (with_reducible exact LeO.none _)
  | (with_reducible refine LeO.ite ?_ ?_)
  | (with_reducible refine LeO.bind ?_ (fun _ => ?_))
  | exact ih0 _ _ _ _ _ _
  | exact LeO.none _
  | refine LeO.ite ?_ ?_
  | refine LeO.bind ?_ (fun _ => ?_)
set_option maxHeartbeats 8000000 in
set_option maxRecDepth 100000 in
theorem ranges_Best.calls (k : Nat) (A0 : Option Addr) (c0 : Nat) (l0 : List (List (S59))) (A1 : Option Addr) (c1 : Nat) (l1 : List ByteArray) (r : Int) (w : World) (hr0 : Kd.C (Kd.slice 59 k59) w A0 l0.length l0) (hc0 : l0.length ≤ c0) (hr1 : Kd.C Kd.string w A1 l1.length l1) (hc1 : l1.length ≤ c1) (hT : RTabs w) (h : ranges_Best.f k l0 l1 = some r) :
 Calls Tryz.prog 30 #[.slice A0 l0.length c0, .slice A1 l1.length c1] w fun e w' => e = .returned (.int .i64 r) ∧ Below w.heap.size w w' := by
 have HR0 := Aside0.mk hr0
 have HC0 := Aside0.mk hc0
 clear hr0 hc0
 have HR1 := Aside0.mk hr1
 have HC1 := Aside0.mk hc1
 clear hr1 hc1
 have HB := Aside0.mk (Below.refl w.heap.size w)
 have HTabs := Aside0.mk hT
 clear hT
 have H : (ranges_Best.l0 k l0 l1 (-1) l1 (l1.length : Int) 0) = some r := h
 clear h
 have H' := Aside0.mk H
 clear H
 go_enter Tryz.func30, Tryz.ntmps30
 go_wp2
 go_loopg [5, 12] k (fun kq v5 v12 w' => ∃ (x5_1 : Int) (x12_1 : Int), v5 = .int .i64 x5_1 ∧ v12 = .int .i64 x12_1 ∧ Aside0 (ranges_Best.l0 kq l0 l1 x5_1 l1 (l1.length : Int) x12_1 = some r) ∧ Aside0 (kq ≤ k) ∧ Aside0 (Below w.heap.size w w'))
 case atStart => exact ⟨((-1)), (0), rf, rf, H', ⟨Nat.le_refl _⟩, ⟨tb⟩⟩
 case round =>
  clear H'
  try clear c1
  try clear p2
  obtain ⟨x5_1, x12_1, rfl, rfl, HA, HK1, HB⟩ := hrel
  cases gk with
  | zero => exact absurd HA.out (by simp [ranges_Best.l0])
  | succ k1 =>
   have H := HA.out
   clear HA
   simp only [ranges_Best.l0] at H
   by_cases c3 : x12_1 < (l1.length : Int)
   rotate_left
   · rw [if_neg c3] at H
     have c3b0 : decide (x12_1 < (l1.length : Int)) = false := decide_eq_false c3
     clear c3
     obtain rfl := Option.some.inj H
     go_wp2
     go_ret
     exact ⟨by first | rfl | (simp [errW_none, errW_some] <;> rfl) | (simp [*, errW_none, errW_some] <;> rfl), tb⟩

   rw [if_pos c3] at H
   have c3b0 : decide (x12_1 < (l1.length : Int)) = true := decide_eq_true c3
   clear c3
   by_cases c4 : 0 ≤ x12_1
   rotate_left
   · rw [if_neg c4] at H
     exact absurd H (by simp)
   rw [if_pos c4] at H
   have c4b0 : decide (0 ≤ x12_1) = true := decide_eq_true c4
   clear c4
   by_cases c5 : x12_1 < (l1.length : Int)
   rotate_left
   · rw [if_neg c5] at H
     exact absurd H (by simp)
   rw [if_pos c5] at H
   have c5b0 : decide (x12_1 < (l1.length : Int)) = true := decide_eq_true c5
   clear c5
   obtain ⟨t283, A60, H⟩ := Option.bind_eq_some_iff.mp H
   have A6 := Aside0.mk A60
   clear A60
   by_cases c7 : t283 = true
   rotate_left
   · replace c7 := Bool.eq_false_iff.mpr c7
     subst c7
     rw [if_neg (show ¬ (false = true) by decide)] at H
     have H' := Aside0.mk H
     clear H
     have p282 : 0 ≤ (x12_1 : Int) := da
     have q282 : x12_1 < (l1.length : Int) := da
     obtain ⟨ad282, e282, hx282_0⟩ := Kd.at_string HR1.out x12_1 p282 q282
     cases e282
     replace hx282_0 := (HB.out.cell (World.block_lt_of_cell? w _ hx282_0)).trans hx282_0
     replace p282 := eq_true p282
     replace q282 := eq_true q282
     go_wp2_with (first | ((with_reducible refine gate_callee (f := 28) rfl ?_); refine goesL_ (some 19) rfl rfl Tryz.func28 (by kernel_rfl) rfl #[.slice A0 l0.length c0, .string (rdOf ByteArray.empty l1 x12_1)] rfl gl ?_; (with_reducible refine (ranges_Allows.calls _ _ l0 (rdOf ByteArray.empty l1 x12_1) false _ ?side1 ?side2 ?side3 A6.out).mono ?_); (case side1 => exact pC (Kd.C_below HR0.out HB.out)); (case side2 => exact HC0.out); (case side3 => exact RTabs.below HTabs.out tb); rintro e w18 ⟨rfl, hb⟩; refine ⟨_, rfl, ?_⟩; replace HB := Aside0.mk (below_step tb hb); (try clear hb)))
     go_roundg k1
     case measure => have := HK1.out; omega
     case rel => exact ⟨(x5_1), (wrap64 (x12_1 + 1)), rf, rf, H', ⟨by have := HK1.out; omega⟩, ⟨tb⟩⟩
   subst c7
   rw [if_pos rfl] at H
   by_cases c8 : x5_1 ≥ 0
   rotate_left
   · rw [if_neg c8] at H
     have c8b0 : decide (0 ≤ x5_1) = false := decide_eq_false c8
     clear c8
     have H' := Aside0.mk H
     clear H
     have p282 : 0 ≤ (x12_1 : Int) := da
     have q282 : x12_1 < (l1.length : Int) := da
     obtain ⟨ad282, e282, hx282_0⟩ := Kd.at_string HR1.out x12_1 p282 q282
     cases e282
     replace hx282_0 := (HB.out.cell (World.block_lt_of_cell? w _ hx282_0)).trans hx282_0
     replace p282 := eq_true p282
     replace q282 := eq_true q282
     go_wp2_with (first | ((with_reducible refine gate_callee (f := 28) rfl ?_); refine goesL_ (some 19) rfl rfl Tryz.func28 (by kernel_rfl) rfl #[.slice A0 l0.length c0, .string (rdOf ByteArray.empty l1 x12_1)] rfl gl ?_; (with_reducible refine (ranges_Allows.calls _ _ l0 (rdOf ByteArray.empty l1 x12_1) true _ ?side1 ?side2 ?side3 A6.out).mono ?_); (case side1 => exact pC (Kd.C_below HR0.out HB.out)); (case side2 => exact HC0.out); (case side3 => exact RTabs.below HTabs.out tb); rintro e w17 ⟨rfl, hb⟩; refine ⟨_, rfl, ?_⟩; replace HB := Aside0.mk (below_step tb hb); (try clear hb)))
     go_roundg k1
     case measure => have := HK1.out; omega
     case rel => exact ⟨(x12_1), (wrap64 (x12_1 + 1)), rf, rf, H', ⟨by have := HK1.out; omega⟩, ⟨tb⟩⟩
   rw [if_pos c8] at H
   have c8b0 : decide (0 ≤ x5_1) = true := decide_eq_true c8
   clear c8
   by_cases c9 : 0 ≤ x5_1
   rotate_left
   · rw [if_neg c9] at H
     exact absurd H (by simp)
   rw [if_pos c9] at H
   have c9b0 : decide (0 ≤ x5_1) = true := decide_eq_true c9
   clear c9
   by_cases c10 : x5_1 < (l1.length : Int)
   rotate_left
   · rw [if_neg c10] at H
     exact absurd H (by simp)
   rw [if_pos c10] at H
   have c10b0 : decide (x5_1 < (l1.length : Int)) = true := decide_eq_true c10
   clear c10
   replace H := Option.bind_eq_some_iff.mp H
   obtain ⟨⟨t285, t286⟩, A110, H⟩ := H
   replace H : (if t285 ≤ 0 then (ranges_Best.l0 k1 l0 l1 x5_1 l1 (l1.length : Int) (wrap64 (x12_1 + 1))) else (ranges_Best.l0 k1 l0 l1 x12_1 l1 (l1.length : Int) (wrap64 (x12_1 + 1)))) = some r := H
   have A11 := Aside0.mk A110
   clear A110
   by_cases c12 : t285 ≤ 0
   · rw [if_pos c12] at H
     have c12b0 : decide (t285 ≤ 0) = true := decide_eq_true c12
     clear c12
     have H' := Aside0.mk H
     clear H
     have p282 : 0 ≤ (x12_1 : Int) := da
     have q282 : x12_1 < (l1.length : Int) := da
     obtain ⟨ad282, e282, hx282_0⟩ := Kd.at_string HR1.out x12_1 p282 q282
     cases e282
     replace hx282_0 := (HB.out.cell (World.block_lt_of_cell? w _ hx282_0)).trans hx282_0
     replace p282 := eq_true p282
     replace q282 := eq_true q282
     go_wp2_with (first | ((with_reducible refine gate_callee (f := 28) rfl ?_); refine goesL_ (some 19) rfl rfl Tryz.func28 (by kernel_rfl) rfl #[.slice A0 l0.length c0, .string (rdOf ByteArray.empty l1 x12_1)] rfl gl ?_; (with_reducible refine (ranges_Allows.calls _ _ l0 (rdOf ByteArray.empty l1 x12_1) true _ ?side1 ?side2 ?side3 A6.out).mono ?_); (case side1 => exact pC (Kd.C_below HR0.out HB.out)); (case side2 => exact HC0.out); (case side3 => exact RTabs.below HTabs.out tb); rintro e w13 ⟨rfl, hb⟩; refine ⟨_, rfl, ?_⟩; replace HB := Aside0.mk (below_step tb hb); (try clear hb); have p284 : 0 ≤ (x5_1 : Int) := da; have q284 : x5_1 < (l1.length : Int) := da; obtain ⟨ad284, e284, hx284_0⟩ := Kd.at_string HR1.out x5_1 p284 q284; obtain rfl : ad282 = ad284 := (by injection e284); replace hx284_0 := (HB.out.cell (World.block_lt_of_cell? w _ hx284_0)).trans hx284_0; replace p284 := eq_true p284; replace q284 := eq_true q284) | ((with_reducible refine gate_callee (f := 32) rfl ?_); refine goesL_ (some 29) rfl rfl Tryz.func32 (by kernel_rfl) rfl #[.string (rdOf ByteArray.empty l1 x12_1), .string (rdOf ByteArray.empty l1 x5_1)] rfl gl ?_; (with_reducible refine (version_Texts.calls (rdOf ByteArray.empty l1 x12_1) (rdOf ByteArray.empty l1 x5_1) t285 t286 _ ?side1 A11.out).mono ?_); (case side1 => exact RTabs.below HTabs.out tb); rintro e w14 ⟨rfl, hb⟩; refine ⟨_, rfl, ?_⟩; replace HB := Aside0.mk (below_step tb hb); (try clear hb)))
     go_roundg k1
     case measure => have := HK1.out; omega
     case rel => exact ⟨(x5_1), (wrap64 (x12_1 + 1)), rf, rf, H', ⟨by have := HK1.out; omega⟩, ⟨tb⟩⟩
   rw [if_neg c12] at H
   have c12b0 : decide (t285 ≤ 0) = false := decide_eq_false c12
   clear c12
   have H' := Aside0.mk H
   clear H
   have p282 : 0 ≤ (x12_1 : Int) := da
   have q282 : x12_1 < (l1.length : Int) := da
   obtain ⟨ad282, e282, hx282_0⟩ := Kd.at_string HR1.out x12_1 p282 q282
   cases e282
   replace hx282_0 := (HB.out.cell (World.block_lt_of_cell? w _ hx282_0)).trans hx282_0
   replace p282 := eq_true p282
   replace q282 := eq_true q282
   go_wp2_with (first | ((with_reducible refine gate_callee (f := 28) rfl ?_); refine goesL_ (some 19) rfl rfl Tryz.func28 (by kernel_rfl) rfl #[.slice A0 l0.length c0, .string (rdOf ByteArray.empty l1 x12_1)] rfl gl ?_; (with_reducible refine (ranges_Allows.calls _ _ l0 (rdOf ByteArray.empty l1 x12_1) true _ ?side1 ?side2 ?side3 A6.out).mono ?_); (case side1 => exact pC (Kd.C_below HR0.out HB.out)); (case side2 => exact HC0.out); (case side3 => exact RTabs.below HTabs.out tb); rintro e w15 ⟨rfl, hb⟩; refine ⟨_, rfl, ?_⟩; replace HB := Aside0.mk (below_step tb hb); (try clear hb); have p284 : 0 ≤ (x5_1 : Int) := da; have q284 : x5_1 < (l1.length : Int) := da; obtain ⟨ad284, e284, hx284_0⟩ := Kd.at_string HR1.out x5_1 p284 q284; obtain rfl : ad282 = ad284 := (by injection e284); replace hx284_0 := (HB.out.cell (World.block_lt_of_cell? w _ hx284_0)).trans hx284_0; replace p284 := eq_true p284; replace q284 := eq_true q284) | ((with_reducible refine gate_callee (f := 32) rfl ?_); refine goesL_ (some 29) rfl rfl Tryz.func32 (by kernel_rfl) rfl #[.string (rdOf ByteArray.empty l1 x12_1), .string (rdOf ByteArray.empty l1 x5_1)] rfl gl ?_; (with_reducible refine (version_Texts.calls (rdOf ByteArray.empty l1 x12_1) (rdOf ByteArray.empty l1 x5_1) t285 t286 _ ?side1 A11.out).mono ?_); (case side1 => exact RTabs.below HTabs.out tb); rintro e w16 ⟨rfl, hb⟩; refine ⟨_, rfl, ?_⟩; replace HB := Aside0.mk (below_step tb hb); (try clear hb)))
   go_roundg k1
   case measure => have := HK1.out; omega
   case rel => exact ⟨(x12_1), (wrap64 (x12_1 + 1)), rf, rf, H', ⟨by have := HK1.out; omega⟩, ⟨tb⟩⟩
end Go.Proofs.YtnbmdecehlljcaaGreatDoor.PRq
