-- Laid by a program of this session (wip/tools/pgiven.py) out of the seat's translation. Lean checks it.
import Derived.Test.YtnbmdecehlljcaaGreatDoorPRqx0
import Derived.Test.YtnbmdecehlljcaaGreatDoorPRqx2
import Derived.Test.YtnbmdecehlljcaaGreatDoorPRqx8
namespace Go.Proofs.YtnbmdecehlljcaaGreatDoor.PRq
open Go.RowKit Go.Proofs.YtnbmdecehlljcaaGreatDoorW.PrintWords Go.Proofs.YtnbmdecehlljcaaGreatDoorW.PrintLast Go.Proofs.YtnbmdecehlljcaaGreatDoorW.PrintMore
attribute [local go_sem] max2_int min2_int max_two min_two max_three min_three max_four min_four   -- for this text's walks alone
set_option linter.unusedVariables false
set_option linter.unusedSimpArgs false

attribute [local go_sem] isSome_setCellV
/-! ### tithebarnref14_Print: function 27 -/
mutual
def tithebarnref14_Print.l0 : Nat → List (List (S59)) → ByteArray → Int → Option (ByteArray × Int)
 | 0, _, _, _ => none
 | k + 1, x0, x4, x5 => if x5 < (x0.length : Int) then (if x5 > 0 then (if x4.size + 1 ≤ 9223372036854775807 then (tithebarnref14_Print.j1 k x0 (x4 ++ (⟨#[124]⟩ : ByteArray)) x5) else (none)) else (tithebarnref14_Print.j1 k x0 x4 x5)) else (some (x4, 0))
def tithebarnref14_Print.j1 : Nat → List (List (S59)) → ByteArray → Int → Option (ByteArray × Int)
 | 0, _, _, _ => none
 | k + 1, x0, x4, x5 => tithebarnref14_Print.l1 k x0 x4 x5 0
def tithebarnref14_Print.l1 : Nat → List (List (S59)) → ByteArray → Int → Int → Option (ByteArray × Int)
 | 0, _, _, _, _ => none
 | k + 1, x0, x4, x5, x6 => if 0 ≤ x5 then (if x5 < (x0.length : Int) then (if x6 < ((rd_L4 x0 x5).length : Int) then (if x6 > 0 then (if x4.size + 1 ≤ 9223372036854775807 then (if 0 ≤ x6 then ((tithebarnref14_sign.f ((rd_T59 (rd_L4 x0 x5) x6).f0)).bind fun t207 => (if (x4 ++ (⟨#[44]⟩ : ByteArray)).size + t207.size ≤ 9223372036854775807 then (if ((rd_T59 (rd_L4 x0 x5) x6).f0) = 0 then (tithebarnref14_Print.l1 k x0 ((x4 ++ (⟨#[44]⟩ : ByteArray)) ++ t207) x5 (wrap64 (x6 + 1))) else (if ((x4 ++ (⟨#[44]⟩ : ByteArray)) ++ t207).size + ((rd_T59 (rd_L4 x0 x5) x6).f1).size ≤ 9223372036854775807 then (tithebarnref14_Print.l1 k x0 (((x4 ++ (⟨#[44]⟩ : ByteArray)) ++ t207) ++ ((rd_T59 (rd_L4 x0 x5) x6).f1)) x5 (wrap64 (x6 + 1))) else (none))) else (none))) else (none)) else (none)) else (if 0 ≤ x6 then ((tithebarnref14_sign.f ((rd_T59 (rd_L4 x0 x5) x6).f0)).bind fun t214 => (if x4.size + t214.size ≤ 9223372036854775807 then (if ((rd_T59 (rd_L4 x0 x5) x6).f0) = 0 then (tithebarnref14_Print.l1 k x0 (x4 ++ t214) x5 (wrap64 (x6 + 1))) else (if (x4 ++ t214).size + ((rd_T59 (rd_L4 x0 x5) x6).f1).size ≤ 9223372036854775807 then (tithebarnref14_Print.l1 k x0 ((x4 ++ t214) ++ ((rd_T59 (rd_L4 x0 x5) x6).f1)) x5 (wrap64 (x6 + 1))) else (none))) else (none))) else (none))) else (tithebarnref14_Print.l0 k x0 x4 (wrap64 (x5 + 1)))) else (none)) else (none)
end
def tithebarnref14_Print.f (k : Nat) (l0 : List (List (S59))) : Option (ByteArray × Int) := (tithebarnref14_May.f k l0).bind fun t203 => (if t203 = true then (if (l0.length : Int) = 0 then (some ((⟨#[42]⟩ : ByteArray), 0)) else (tithebarnref14_Print.l0 k l0 (⟨#[]⟩ : ByteArray) 0)) else (some ((⟨#[]⟩ : ByteArray), 2)))
theorem tithebarnref14_Print.mono_l : ∀ k, (∀ y0 y1 y2, LeO (tithebarnref14_Print.l0 k y0 y1 y2) (tithebarnref14_Print.l0 (k + 1) y0 y1 y2)) ∧ (∀ y0 y1 y2, LeO (tithebarnref14_Print.j1 k y0 y1 y2) (tithebarnref14_Print.j1 (k + 1) y0 y1 y2)) ∧ (∀ y0 y1 y2 y3, LeO (tithebarnref14_Print.l1 k y0 y1 y2 y3) (tithebarnref14_Print.l1 (k + 1) y0 y1 y2 y3))
 | 0 => ⟨fun _ _ _ r h => by simp [tithebarnref14_Print.l0] at h, fun _ _ _ r h => by simp [tithebarnref14_Print.j1] at h, fun _ _ _ _ r h => by simp [tithebarnref14_Print.l1] at h⟩
 | k + 1 => by
  obtain ⟨ih0, ih1, ih2⟩ := tithebarnref14_Print.mono_l k
  refine ⟨?_, ?_, ?_⟩
  · intro y0 y1 y2
    unfold tithebarnref14_Print.l0
    repeat' first
    | (with_reducible exact ih0 _ _ _)
    | (with_reducible exact ih1 _ _ _)
    | (with_reducible exact ih2 _ _ _ _)
    | (with_reducible exact tithebarnref14_May.mono _ _)
    | (with_reducible exact LeO.refl _)
    | (with_reducible exact LeO.none _)
    | (with_reducible refine LeO.ite ?_ ?_)
    | (with_reducible refine LeO.bind ?_ (fun _ => ?_))
    | exact ih0 _ _ _
    | exact ih1 _ _ _
    | exact ih2 _ _ _ _
    | exact tithebarnref14_May.mono _ _
    | exact LeO.none _
    | refine LeO.ite ?_ ?_
    | refine LeO.bind ?_ (fun _ => ?_)
  · intro y0 y1 y2
    unfold tithebarnref14_Print.j1
    repeat' first
    | (with_reducible exact ih0 _ _ _)
    | (with_reducible exact ih1 _ _ _)
    | (with_reducible exact ih2 _ _ _ _)
    | (with_reducible exact tithebarnref14_May.mono _ _)
    | (with_reducible exact LeO.refl _)
    | (with_reducible exact LeO.none _)
    | (with_reducible refine LeO.ite ?_ ?_)
    | (with_reducible refine LeO.bind ?_ (fun _ => ?_))
    | exact ih0 _ _ _
    | exact ih1 _ _ _
    | exact ih2 _ _ _ _
    | exact tithebarnref14_May.mono _ _
    | exact LeO.none _
    | refine LeO.ite ?_ ?_
    | refine LeO.bind ?_ (fun _ => ?_)
  · intro y0 y1 y2 y3
    unfold tithebarnref14_Print.l1
    repeat' first
    | (with_reducible exact ih0 _ _ _)
    | (with_reducible exact ih1 _ _ _)
    | (with_reducible exact ih2 _ _ _ _)
    | (with_reducible exact tithebarnref14_May.mono _ _)
    | (with_reducible exact LeO.refl _)
    | (with_reducible exact LeO.none _)
    | (with_reducible refine LeO.ite ?_ ?_)
    | (with_reducible refine LeO.bind ?_ (fun _ => ?_))
    | exact ih0 _ _ _
    | exact ih1 _ _ _
    | exact ih2 _ _ _ _
    | exact tithebarnref14_May.mono _ _
    | exact LeO.none _
    | refine LeO.ite ?_ ?_
    | refine LeO.bind ?_ (fun _ => ?_)
theorem tithebarnref14_Print.mono : ∀ a0 k, LeO (tithebarnref14_Print.f k a0) (tithebarnref14_Print.f (k + 1) a0) := by
 intro a0 k
 obtain ⟨ih0, ih1, ih2⟩ := tithebarnref14_Print.mono_l k
 unfold tithebarnref14_Print.f
 repeat' first
  | (with_reducible exact ih0 _ _ _)
  | (with_reducible exact ih1 _ _ _)
  | (with_reducible exact ih2 _ _ _ _)
  | (with_reducible exact tithebarnref14_May.mono _ _)
  | (with_reducible exact LeO.refl _)
  | (with_reducible exact LeO.none _)
  | (with_reducible refine LeO.ite ?_ ?_)
  | (with_reducible refine LeO.bind ?_ (fun _ => ?_))
  | exact ih0 _ _ _
  | exact ih1 _ _ _
  | exact ih2 _ _ _ _
  | exact tithebarnref14_May.mono _ _
  | exact LeO.none _
  | refine LeO.ite ?_ ?_
  | refine LeO.bind ?_ (fun _ => ?_)
set_option maxHeartbeats 8000000 in
set_option maxRecDepth 100000 in
theorem tithebarnref14_Print.calls (k : Nat) (A0 : Option Addr) (c0 : Nat) (l0 : List (List (S59))) (r1 : ByteArray) (r2 : Int) (w : World) (hr0 : Kd.C (Kd.slice 59 k59) w A0 l0.length l0) (hc0 : l0.length ≤ c0) (h : tithebarnref14_Print.f k l0 = some (r1, r2)) :
 Calls Tryz.prog 27 #[.slice A0 l0.length c0] w fun e w' => e = .returned (.tuple #[.string r1, .int .i64 r2]) ∧ Below w.heap.size w w' := by
 have HR0 := Aside0.mk hr0
 have HC0 := Aside0.mk hc0
 clear hr0 hc0
 have HB := Aside0.mk (Below.refl w.heap.size w)
 have H : ((tithebarnref14_May.f k l0).bind fun t203 => (if t203 = true then (if (l0.length : Int) = 0 then (some ((⟨#[42]⟩ : ByteArray), 0)) else (tithebarnref14_Print.l0 k l0 (⟨#[]⟩ : ByteArray) 0)) else (some ((⟨#[]⟩ : ByteArray), 2)))) = some (r1, r2) := h
 clear h
 obtain ⟨t203, A20, H⟩ := Option.bind_eq_some_iff.mp H
 have A2 := Aside0.mk A20
 clear A20
 by_cases c3 : t203 = true
 rotate_left
 · replace c3 := Bool.eq_false_iff.mpr c3
   subst c3
   rw [if_neg (show ¬ (false = true) by decide)] at H
   simp only [Option.some.injEq, Prod.mk.injEq] at H
   obtain ⟨rfl, rfl⟩ := H
   go_enter Tryz.func27, Tryz.ntmps27
   go_wp2_with (first | ((with_reducible refine gate_callee (f := 53) rfl ?_); refine goesL_ (some 8) rfl rfl Tryz.func53 (by kernel_rfl) rfl #[.slice A0 l0.length c0] rfl gl ?_; (with_reducible refine (tithebarnref14_May.calls k _ _ l0 false _ ?side1 ?side2 A2.out).mono ?_); (case side1 => exact pC HR0.out); (case side2 => exact HC0.out); rintro e w30 ⟨rfl, hb⟩; refine ⟨_, rfl, ?_⟩; replace HB := Aside0.mk (below_step tb hb); (try clear hb)))
   go_ret2
   exact ⟨by first | rfl | (simp [errW_none, errW_some] <;> rfl) | (simp [*, errW_none, errW_some] <;> rfl), tb⟩

 subst c3
 rw [if_pos rfl] at H
 by_cases c4 : (l0.length : Int) = 0
 · rw [if_pos c4] at H
   have c4b0 : ((l0.length : Int) == 0) = true := beq_iff_eq.mpr c4
   have c4b1 : ((l0.length : Int) != 0) = false := bne_eq_false_iff_eq.mpr c4
   clear c4
   simp only [Option.some.injEq, Prod.mk.injEq] at H
   obtain ⟨rfl, rfl⟩ := H
   go_enter Tryz.func27, Tryz.ntmps27
   go_wp2_with (first | ((with_reducible refine gate_callee (f := 53) rfl ?_); refine goesL_ (some 8) rfl rfl Tryz.func53 (by kernel_rfl) rfl #[.slice A0 l0.length c0] rfl gl ?_; (with_reducible refine (tithebarnref14_May.calls k _ _ l0 true _ ?side1 ?side2 A2.out).mono ?_); (case side1 => exact pC HR0.out); (case side2 => exact HC0.out); rintro e w5 ⟨rfl, hb⟩; refine ⟨_, rfl, ?_⟩; replace HB := Aside0.mk (below_step tb hb); (try clear hb)))
   go_ret2
   exact ⟨by first | rfl | (simp [errW_none, errW_some] <;> rfl) | (simp [*, errW_none, errW_some] <;> rfl), tb⟩
 rw [if_neg c4] at H
 have c4b0 : ((l0.length : Int) == 0) = false := beq_eq_false_iff_ne.mpr c4
 have c4b1 : ((l0.length : Int) != 0) = true := bne_iff_ne.mpr c4
 have c4b2 : ¬ (l0 = []) := fun h_ => c4 (by rw [h_]; rfl)
 have H' := Aside0.mk H
 clear H
 go_enter Tryz.func27, Tryz.ntmps27
 go_wp2_with (first | ((with_reducible refine gate_callee (f := 53) rfl ?_); refine goesL_ (some 8) rfl rfl Tryz.func53 (by kernel_rfl) rfl #[.slice A0 l0.length c0] rfl gl ?_; (with_reducible refine (tithebarnref14_May.calls k _ _ l0 true _ ?side1 ?side2 A2.out).mono ?_); (case side1 => exact pC HR0.out); (case side2 => exact HC0.out); rintro e w6 ⟨rfl, hb⟩; refine ⟨_, rfl, ?_⟩; replace HB := Aside0.mk (below_step tb hb); (try clear hb)))
 go_loopg [4, 5] k (fun kq v4 v5 w' => ∃ (x4_1 : ByteArray) (x5_1 : Int), v4 = .string x4_1 ∧ v5 = .int .i64 x5_1 ∧ Aside0 (tithebarnref14_Print.l0 kq l0 x4_1 x5_1 = some (r1, r2)) ∧ Aside0 (kq ≤ k) ∧ Aside0 (Below w.heap.size w w'))
 case atStart => exact ⟨((⟨#[]⟩ : ByteArray)), (0), rf, rf, H', ⟨Nat.le_refl _⟩, ⟨tb⟩⟩
 case round =>
  clear H'
  try clear c2
  try clear p2
  try clear c3
  try clear c4
  try clear c4b0
  try clear c4b1
  try clear c4b2
  try clear c5
  obtain ⟨x4_1, x5_1, rfl, rfl, HA, HK1, HB⟩ := hrel
  cases gk with
  | zero => exact absurd HA.out (by simp [tithebarnref14_Print.l0])
  | succ k1 =>
   have H := HA.out
   clear HA
   simp only [tithebarnref14_Print.l0] at H
   by_cases c7 : x5_1 < (l0.length : Int)
   rotate_left
   · rw [if_neg c7] at H
     have c7b0 : decide (x5_1 < (l0.length : Int)) = false := decide_eq_false c7
     clear c7
     simp only [Option.some.injEq, Prod.mk.injEq] at H
     obtain ⟨rfl, rfl⟩ := H
     go_wp2
     go_ret2
     exact ⟨by first | rfl | (simp [errW_none, errW_some] <;> rfl) | (simp [*, errW_none, errW_some] <;> rfl), tb⟩
   rw [if_pos c7] at H
   have c7b0 : decide (x5_1 < (l0.length : Int)) = true := decide_eq_true c7
   clear c7
   have HC8 := Aside0.mk H
   clear H
   go_upto_if 20 with (fail)
   go_cut [4] (fun v4 wc => ∃ (kq : Nat) (x4_7 : ByteArray), v4 = .string x4_7 ∧ Aside0 (tithebarnref14_Print.j1 kq l0 x4_7 x5_1 = some (r1, r2)) ∧ Aside0 (kq ≤ k1) ∧ Aside0 (Below w.heap.size w wc))
   case first =>
    have H := HC8.out
    clear HC8
    by_cases c9 : x5_1 > 0
    rotate_left
    · rw [if_neg c9] at H
      have c9b0 : decide (0 < x5_1) = false := decide_eq_false c9
      clear c9
      (first | rw [c9b0] | (simp only [i64_w, i32_w]; rw [c9b0]) | skip)
      have H' := Aside0.mk H
      clear H
      go_wp2
      go_meet
      case rel => exact ⟨_, (x4_1), rf, H', ⟨by have := HK1.out; first | omega | exact Nat.le_refl _⟩, ⟨tb⟩⟩
    rw [if_pos c9] at H
    have c9b0 : decide (0 < x5_1) = true := decide_eq_true c9
    clear c9
    (first | rw [c9b0] | (simp only [i64_w, i32_w]; rw [c9b0]) | skip)
    by_cases c10 : x4_1.size + 1 ≤ 9223372036854775807
    rotate_left
    · rw [if_neg c10] at H
      exact absurd H (by simp)
    rw [if_pos c10] at H
    have c10b0 := eq_true c10
    have c10b1 : decide (x4_1.size + 1 ≤ 9223372036854775807) = true := decide_eq_true c10
    try have c10b2 : (9223372036854775807 < x4_1.size + 1) = False := eq_false (Nat.not_lt.2 c10)
    have H' := Aside0.mk H
    clear H
    go_wp2
    go_meet
    case rel => exact ⟨_, (x4_1 ++ (⟨#[124]⟩ : ByteArray)), rf, H', ⟨by have := HK1.out; first | omega | exact Nat.le_refl _⟩, ⟨tb⟩⟩
   case rest =>
    clear HC8
    try clear c1
    try clear c2
    try clear p2
    try clear c3
    try clear c4
    try clear c4b0
    try clear c4b1
    try clear c4b2
    try clear c5
    try clear c7
    try clear c7b0
    try clear c9
    try clear c9b0
    try clear c10
    try clear c10b0
    try clear c10b1
    try clear c10b2
    try clear p2
    obtain ⟨kq, x4_7, rfl, HA, HJ7, HB⟩ := hcut
    cases kq with
    | zero => exact absurd HA.out (by simp [tithebarnref14_Print.j1])
    | succ kj7 =>
     have H := HA.out
     clear HA
     simp only [tithebarnref14_Print.j1] at H
     have H' := Aside0.mk H
     clear H
     go_wp2
     go_loopg [4, 6] kj7 (fun kq v4 v6 w' => ∃ (x4_3 : ByteArray) (x6_3 : Int), v4 = .string x4_3 ∧ v6 = .int .i64 x6_3 ∧ Aside0 (tithebarnref14_Print.l1 kq l0 x4_3 x5_1 x6_3 = some (r1, r2)) ∧ Aside0 (kq ≤ kj7) ∧ Aside0 (Below w.heap.size w w'))
     case atStart => exact ⟨(x4_7), (0), rf, rf, H', ⟨Nat.le_refl _⟩, ⟨tb⟩⟩
     case round =>
      clear H'
      try clear c1
      try clear c2
      try clear p2
      try clear c3
      try clear c4
      try clear c4b0
      try clear c4b1
      try clear c4b2
      try clear c5
      try clear c7
      try clear c7b0
      try clear c9
      try clear c9b0
      try clear c10
      try clear c10b0
      try clear c10b1
      try clear c10b2
      try clear p2
      obtain ⟨x4_3, x6_3, rfl, rfl, HA, HK3, HB⟩ := hrel
      cases gk with
      | zero => exact absurd HA.out (by simp [tithebarnref14_Print.l1])
      | succ k3 =>
       have H := HA.out
       clear HA
       simp only [tithebarnref14_Print.l1] at H
       by_cases c11 : 0 ≤ x5_1
       rotate_left
       · rw [if_neg c11] at H
         exact absurd H (by simp)
       rw [if_pos c11] at H
       have c11b0 : decide (0 ≤ x5_1) = true := decide_eq_true c11
       clear c11
       by_cases c12 : x5_1 < (l0.length : Int)
       rotate_left
       · rw [if_neg c12] at H
         exact absurd H (by simp)
       rw [if_pos c12] at H
       have c12b0 : decide (x5_1 < (l0.length : Int)) = true := decide_eq_true c12
       clear c12
       by_cases c13 : x6_3 < ((rd_L4 l0 x5_1).length : Int)
       rotate_left
       · rw [if_neg c13] at H
         have c13b0 : decide (x6_3 < ((rd_L4 l0 x5_1).length : Int)) = false := decide_eq_false c13
         clear c13
         have H' := Aside0.mk H
         clear H
         have p204 : 0 ≤ (x5_1 : Int) := da
         have q204 : x5_1 < (l0.length : Int) := da
         obtain ⟨ad204, A204_0, c204_0, e204, hx204_0, hl204_0, hi204_0⟩ := at_L4 HR0.out x5_1 p204 q204
         cases e204
         replace hx204_0 := (HB.out.cell (World.block_lt_of_cell? w _ hx204_0)).trans hx204_0
         have HR204_0 := Aside0.mk hi204_0
         have HC204_0 := Aside0.mk hl204_0
         clear hi204_0 hl204_0
         replace p204 := eq_true p204
         replace q204 := eq_true q204
         go_wp2
         go_roundg k3
         case measure => have := HK1.out; have := HJ7.out; have := HK3.out; omega
         case rel => exact ⟨(x4_3), (wrap64 (x5_1 + 1)), rf, rf, H', ⟨by have := HK1.out; have := HJ7.out; have := HK3.out; omega⟩, ⟨tb⟩⟩
       rw [if_pos c13] at H
       have c13b0 : decide (x6_3 < ((rd_L4 l0 x5_1).length : Int)) = true := decide_eq_true c13
       clear c13
       by_cases c14 : x6_3 > 0
       rotate_left
       · rw [if_neg c14] at H
         have c14b0 : decide (0 < x6_3) = false := decide_eq_false c14
         clear c14
         by_cases c23 : 0 ≤ x6_3
         rotate_left
         · rw [if_neg c23] at H
           exact absurd H (by simp)
         rw [if_pos c23] at H
         have c23b0 : decide (0 ≤ x6_3) = true := decide_eq_true c23
         clear c23
         obtain ⟨t214, A240, H⟩ := Option.bind_eq_some_iff.mp H
         have A24 := Aside0.mk A240
         clear A240
         by_cases c25 : x4_3.size + t214.size ≤ 9223372036854775807
         rotate_left
         · rw [if_neg c25] at H
           exact absurd H (by simp)
         rw [if_pos c25] at H
         have c25b0 := eq_true c25
         have c25b1 : decide (x4_3.size + t214.size ≤ 9223372036854775807) = true := decide_eq_true c25
         try have c25b2 : (9223372036854775807 < x4_3.size + t214.size) = False := eq_false (Nat.not_lt.2 c25)
         by_cases c26 : ((rd_T59 (rd_L4 l0 x5_1) x6_3).f0) = 0
         · rw [if_pos c26] at H
           have c26b0 : (((rd_T59 (rd_L4 l0 x5_1) x6_3).f0) == 0) = true := beq_iff_eq.mpr c26
           have c26b1 : (((rd_T59 (rd_L4 l0 x5_1) x6_3).f0) != 0) = false := bne_eq_false_iff_eq.mpr c26
           clear c26
           have H' := Aside0.mk H
           clear H
           have p204 : 0 ≤ (x5_1 : Int) := da
           have q204 : x5_1 < (l0.length : Int) := da
           obtain ⟨ad204, A204_0, c204_0, e204, hx204_0, hl204_0, hi204_0⟩ := at_L4 HR0.out x5_1 p204 q204
           cases e204
           replace hx204_0 := (HB.out.cell (World.block_lt_of_cell? w _ hx204_0)).trans hx204_0
           have HR204_0 := Aside0.mk hi204_0
           have HC204_0 := Aside0.mk hl204_0
           clear hi204_0 hl204_0
           replace p204 := eq_true p204
           replace q204 := eq_true q204
           have p212 : 0 ≤ (x5_1 : Int) := da
           have q212 : x5_1 < (l0.length : Int) := da
           obtain ⟨ad212, A212_0, c212_0, e212, hx212_0, hl212_0, hi212_0⟩ := at_L4 HR0.out x5_1 p212 q212
           obtain rfl : ad204 = ad212 := (by injection e212)
           replace hx212_0 := (HB.out.cell (World.block_lt_of_cell? w _ hx212_0)).trans hx212_0
           have HR212_0 := Aside0.mk hi212_0
           have HC212_0 := Aside0.mk hl212_0
           clear hi212_0 hl212_0
           replace p212 := eq_true p212
           replace q212 := eq_true q212
           have ea_ := Option.some.inj (hx204_0.symm.trans hx212_0)
           injection ea_ with ea_ en_ ec_
           subst ea_
           subst ec_
           clear en_
           have p213 : 0 ≤ (x6_3 : Int) := da
           have q213 : x6_3 < ((rd_L4 l0 x5_1).length : Int) := da
           obtain ⟨ad213, e213, hx213_0, hx213_1⟩ := at_T59 HR212_0.out x6_3 p213 q213
           cases e213
           replace hx213_0 := (HB.out.cell (World.block_lt_of_cell? w _ hx213_0)).trans hx213_0
           replace hx213_1 := (HB.out.cell (World.block_lt_of_cell? w _ hx213_1)).trans hx213_1
           replace p213 := eq_true p213
           replace q213 := eq_true q213
           go_wp2_with (first | ((with_reducible refine gate_callee (f := 56) rfl ?_); refine goesL_ (some 45) rfl rfl Tryz.func56 (by kernel_rfl) rfl #[.int .u8 ((rd_T59 (rd_L4 l0 x5_1) x6_3).f0)] rfl gl ?_; (with_reducible refine (tithebarnref14_sign.calls ((rd_T59 (rd_L4 l0 x5_1) x6_3).f0) t214 _ A24.out).mono ?_); rintro e w27 ⟨rfl, hb⟩; refine ⟨_, rfl, ?_⟩; replace HB := Aside0.mk (below_step tb hb); (try clear hb); have p215 : 0 ≤ (x5_1 : Int) := da; have q215 : x5_1 < (l0.length : Int) := da; obtain ⟨ad215, A215_0, c215_0, e215, hx215_0, hl215_0, hi215_0⟩ := at_L4 HR0.out x5_1 p215 q215; obtain rfl : ad204 = ad215 := (by injection e215); replace hx215_0 := (HB.out.cell (World.block_lt_of_cell? w _ hx215_0)).trans hx215_0; have HR215_0 := Aside0.mk hi215_0; have HC215_0 := Aside0.mk hl215_0; clear hi215_0 hl215_0; replace p215 := eq_true p215; replace q215 := eq_true q215; have p216 : 0 ≤ (x6_3 : Int) := da; have q216 : x6_3 < ((rd_L4 l0 x5_1).length : Int) := da; obtain ⟨ad216, e216, hx216_0, hx216_1⟩ := at_T59 HR215_0.out x6_3 p216 q216; cases e216; replace hx216_0 := (HB.out.cell (World.block_lt_of_cell? w _ hx216_0)).trans hx216_0; replace hx216_1 := (HB.out.cell (World.block_lt_of_cell? w _ hx216_1)).trans hx216_1; replace p216 := eq_true p216; replace q216 := eq_true q216))
           go_roundg k3
           case measure => have := HK1.out; have := HJ7.out; have := HK3.out; omega
           case rel => exact ⟨(x4_3 ++ t214), (wrap64 (x6_3 + 1)), rf, rf, H', ⟨by have := HK1.out; have := HJ7.out; have := HK3.out; omega⟩, ⟨tb⟩⟩
         rw [if_neg c26] at H
         have c26b0 : (((rd_T59 (rd_L4 l0 x5_1) x6_3).f0) == 0) = false := beq_eq_false_iff_ne.mpr c26
         have c26b1 : (((rd_T59 (rd_L4 l0 x5_1) x6_3).f0) != 0) = true := bne_iff_ne.mpr c26
         by_cases c28 : (x4_3 ++ t214).size + ((rd_T59 (rd_L4 l0 x5_1) x6_3).f1).size ≤ 9223372036854775807
         rotate_left
         · rw [if_neg c28] at H
           exact absurd H (by simp)
         rw [if_pos c28] at H
         have c28b0 := eq_true c28
         have c28b1 : decide ((x4_3 ++ t214).size + ((rd_T59 (rd_L4 l0 x5_1) x6_3).f1).size ≤ 9223372036854775807) = true := decide_eq_true c28
         try have c28b2 : (9223372036854775807 < (x4_3 ++ t214).size + ((rd_T59 (rd_L4 l0 x5_1) x6_3).f1).size) = False := eq_false (Nat.not_lt.2 c28)
         try have c28b3 : decide (x4_3.size + t214.size + ((rd_T59 (rd_L4 l0 x5_1) x6_3).f1).size ≤ 9223372036854775807) = true := decide_eq_true (by have h_ := c28; simp only [ByteArray.size_append] at h_; exact h_)
         try have c28b4 : (9223372036854775807 < x4_3.size + t214.size + ((rd_T59 (rd_L4 l0 x5_1) x6_3).f1).size) = False := eq_false (Nat.not_lt.2 (by have h_ := c28; simp only [ByteArray.size_append] at h_; exact h_))
         have H' := Aside0.mk H
         clear H
         have p204 : 0 ≤ (x5_1 : Int) := da
         have q204 : x5_1 < (l0.length : Int) := da
         obtain ⟨ad204, A204_0, c204_0, e204, hx204_0, hl204_0, hi204_0⟩ := at_L4 HR0.out x5_1 p204 q204
         cases e204
         replace hx204_0 := (HB.out.cell (World.block_lt_of_cell? w _ hx204_0)).trans hx204_0
         have HR204_0 := Aside0.mk hi204_0
         have HC204_0 := Aside0.mk hl204_0
         clear hi204_0 hl204_0
         replace p204 := eq_true p204
         replace q204 := eq_true q204
         have p212 : 0 ≤ (x5_1 : Int) := da
         have q212 : x5_1 < (l0.length : Int) := da
         obtain ⟨ad212, A212_0, c212_0, e212, hx212_0, hl212_0, hi212_0⟩ := at_L4 HR0.out x5_1 p212 q212
         obtain rfl : ad204 = ad212 := (by injection e212)
         replace hx212_0 := (HB.out.cell (World.block_lt_of_cell? w _ hx212_0)).trans hx212_0
         have HR212_0 := Aside0.mk hi212_0
         have HC212_0 := Aside0.mk hl212_0
         clear hi212_0 hl212_0
         replace p212 := eq_true p212
         replace q212 := eq_true q212
         have ea_ := Option.some.inj (hx204_0.symm.trans hx212_0)
         injection ea_ with ea_ en_ ec_
         subst ea_
         subst ec_
         clear en_
         have p213 : 0 ≤ (x6_3 : Int) := da
         have q213 : x6_3 < ((rd_L4 l0 x5_1).length : Int) := da
         obtain ⟨ad213, e213, hx213_0, hx213_1⟩ := at_T59 HR212_0.out x6_3 p213 q213
         cases e213
         replace hx213_0 := (HB.out.cell (World.block_lt_of_cell? w _ hx213_0)).trans hx213_0
         replace hx213_1 := (HB.out.cell (World.block_lt_of_cell? w _ hx213_1)).trans hx213_1
         replace p213 := eq_true p213
         replace q213 := eq_true q213
         go_wp2_with (first | ((with_reducible refine gate_callee (f := 56) rfl ?_); refine goesL_ (some 45) rfl rfl Tryz.func56 (by kernel_rfl) rfl #[.int .u8 ((rd_T59 (rd_L4 l0 x5_1) x6_3).f0)] rfl gl ?_; (with_reducible refine (tithebarnref14_sign.calls ((rd_T59 (rd_L4 l0 x5_1) x6_3).f0) t214 _ A24.out).mono ?_); rintro e w29 ⟨rfl, hb⟩; refine ⟨_, rfl, ?_⟩; replace HB := Aside0.mk (below_step tb hb); (try clear hb); have p215 : 0 ≤ (x5_1 : Int) := da; have q215 : x5_1 < (l0.length : Int) := da; obtain ⟨ad215, A215_0, c215_0, e215, hx215_0, hl215_0, hi215_0⟩ := at_L4 HR0.out x5_1 p215 q215; obtain rfl : ad204 = ad215 := (by injection e215); replace hx215_0 := (HB.out.cell (World.block_lt_of_cell? w _ hx215_0)).trans hx215_0; have HR215_0 := Aside0.mk hi215_0; have HC215_0 := Aside0.mk hl215_0; clear hi215_0 hl215_0; replace p215 := eq_true p215; replace q215 := eq_true q215; have p216 : 0 ≤ (x6_3 : Int) := da; have q216 : x6_3 < ((rd_L4 l0 x5_1).length : Int) := da; obtain ⟨ad216, e216, hx216_0, hx216_1⟩ := at_T59 HR215_0.out x6_3 p216 q216; cases e216; replace hx216_0 := (HB.out.cell (World.block_lt_of_cell? w _ hx216_0)).trans hx216_0; replace hx216_1 := (HB.out.cell (World.block_lt_of_cell? w _ hx216_1)).trans hx216_1; replace p216 := eq_true p216; replace q216 := eq_true q216; have p217 : 0 ≤ (x5_1 : Int) := da; have q217 : x5_1 < (l0.length : Int) := da; obtain ⟨ad217, A217_0, c217_0, e217, hx217_0, hl217_0, hi217_0⟩ := at_L4 HR0.out x5_1 p217 q217; obtain rfl : ad204 = ad217 := (by injection e217); replace hx217_0 := (HB.out.cell (World.block_lt_of_cell? w _ hx217_0)).trans hx217_0; have HR217_0 := Aside0.mk hi217_0; have HC217_0 := Aside0.mk hl217_0; clear hi217_0 hl217_0; replace p217 := eq_true p217; replace q217 := eq_true q217; have ea_ := Option.some.inj (hx215_0.symm.trans hx217_0); injection ea_ with ea_ en_ ec_; subst ea_; subst ec_; clear en_; have p218 : 0 ≤ (x6_3 : Int) := da; have q218 : x6_3 < ((rd_L4 l0 x5_1).length : Int) := da; obtain ⟨ad218, e218, hx218_0, hx218_1⟩ := at_T59 HR217_0.out x6_3 p218 q218; cases e218; replace hx218_0 := (HB.out.cell (World.block_lt_of_cell? w _ hx218_0)).trans hx218_0; replace hx218_1 := (HB.out.cell (World.block_lt_of_cell? w _ hx218_1)).trans hx218_1; replace p218 := eq_true p218; replace q218 := eq_true q218))
         go_roundg k3
         case measure => have := HK1.out; have := HJ7.out; have := HK3.out; omega
         case rel => exact ⟨((x4_3 ++ t214) ++ ((rd_T59 (rd_L4 l0 x5_1) x6_3).f1)), (wrap64 (x6_3 + 1)), rf, rf, H', ⟨by have := HK1.out; have := HJ7.out; have := HK3.out; omega⟩, ⟨tb⟩⟩
       rw [if_pos c14] at H
       have c14b0 : decide (0 < x6_3) = true := decide_eq_true c14
       clear c14
       by_cases c15 : x4_3.size + 1 ≤ 9223372036854775807
       rotate_left
       · rw [if_neg c15] at H
         exact absurd H (by simp)
       rw [if_pos c15] at H
       have c15b0 := eq_true c15
       have c15b1 : decide (x4_3.size + 1 ≤ 9223372036854775807) = true := decide_eq_true c15
       try have c15b2 : (9223372036854775807 < x4_3.size + 1) = False := eq_false (Nat.not_lt.2 c15)
       by_cases c16 : 0 ≤ x6_3
       rotate_left
       · rw [if_neg c16] at H
         exact absurd H (by simp)
       rw [if_pos c16] at H
       have c16b0 : decide (0 ≤ x6_3) = true := decide_eq_true c16
       clear c16
       obtain ⟨t207, A170, H⟩ := Option.bind_eq_some_iff.mp H
       have A17 := Aside0.mk A170
       clear A170
       by_cases c18 : (x4_3 ++ (⟨#[44]⟩ : ByteArray)).size + t207.size ≤ 9223372036854775807
       rotate_left
       · rw [if_neg c18] at H
         exact absurd H (by simp)
       rw [if_pos c18] at H
       have c18b0 := eq_true c18
       have c18b1 : decide ((x4_3 ++ (⟨#[44]⟩ : ByteArray)).size + t207.size ≤ 9223372036854775807) = true := decide_eq_true c18
       try have c18b2 : (9223372036854775807 < (x4_3 ++ (⟨#[44]⟩ : ByteArray)).size + t207.size) = False := eq_false (Nat.not_lt.2 c18)
       try have c18b3 : decide (x4_3.size + 1 + t207.size ≤ 9223372036854775807) = true := decide_eq_true (by have h_ := c18; simp only [ByteArray.size_append] at h_; exact h_)
       try have c18b4 : (9223372036854775807 < x4_3.size + 1 + t207.size) = False := eq_false (Nat.not_lt.2 (by have h_ := c18; simp only [ByteArray.size_append] at h_; exact h_))
       by_cases c19 : ((rd_T59 (rd_L4 l0 x5_1) x6_3).f0) = 0
       · rw [if_pos c19] at H
         have c19b0 : (((rd_T59 (rd_L4 l0 x5_1) x6_3).f0) == 0) = true := beq_iff_eq.mpr c19
         have c19b1 : (((rd_T59 (rd_L4 l0 x5_1) x6_3).f0) != 0) = false := bne_eq_false_iff_eq.mpr c19
         clear c19
         have H' := Aside0.mk H
         clear H
         have p204 : 0 ≤ (x5_1 : Int) := da
         have q204 : x5_1 < (l0.length : Int) := da
         obtain ⟨ad204, A204_0, c204_0, e204, hx204_0, hl204_0, hi204_0⟩ := at_L4 HR0.out x5_1 p204 q204
         cases e204
         replace hx204_0 := (HB.out.cell (World.block_lt_of_cell? w _ hx204_0)).trans hx204_0
         have HR204_0 := Aside0.mk hi204_0
         have HC204_0 := Aside0.mk hl204_0
         clear hi204_0 hl204_0
         replace p204 := eq_true p204
         replace q204 := eq_true q204
         have p205 : 0 ≤ (x5_1 : Int) := da
         have q205 : x5_1 < (l0.length : Int) := da
         obtain ⟨ad205, A205_0, c205_0, e205, hx205_0, hl205_0, hi205_0⟩ := at_L4 HR0.out x5_1 p205 q205
         obtain rfl : ad204 = ad205 := (by injection e205)
         replace hx205_0 := (HB.out.cell (World.block_lt_of_cell? w _ hx205_0)).trans hx205_0
         have HR205_0 := Aside0.mk hi205_0
         have HC205_0 := Aside0.mk hl205_0
         clear hi205_0 hl205_0
         replace p205 := eq_true p205
         replace q205 := eq_true q205
         have ea_ := Option.some.inj (hx204_0.symm.trans hx205_0)
         injection ea_ with ea_ en_ ec_
         subst ea_
         subst ec_
         clear en_
         have p206 : 0 ≤ (x6_3 : Int) := da
         have q206 : x6_3 < ((rd_L4 l0 x5_1).length : Int) := da
         obtain ⟨ad206, e206, hx206_0, hx206_1⟩ := at_T59 HR205_0.out x6_3 p206 q206
         cases e206
         replace hx206_0 := (HB.out.cell (World.block_lt_of_cell? w _ hx206_0)).trans hx206_0
         replace hx206_1 := (HB.out.cell (World.block_lt_of_cell? w _ hx206_1)).trans hx206_1
         replace p206 := eq_true p206
         replace q206 := eq_true q206
         go_wp2_with (first | ((with_reducible refine gate_callee (f := 56) rfl ?_); refine goesL_ (some 45) rfl rfl Tryz.func56 (by kernel_rfl) rfl #[.int .u8 ((rd_T59 (rd_L4 l0 x5_1) x6_3).f0)] rfl gl ?_; (with_reducible refine (tithebarnref14_sign.calls ((rd_T59 (rd_L4 l0 x5_1) x6_3).f0) t207 _ A17.out).mono ?_); rintro e w20 ⟨rfl, hb⟩; refine ⟨_, rfl, ?_⟩; replace HB := Aside0.mk (below_step tb hb); (try clear hb); have p208 : 0 ≤ (x5_1 : Int) := da; have q208 : x5_1 < (l0.length : Int) := da; obtain ⟨ad208, A208_0, c208_0, e208, hx208_0, hl208_0, hi208_0⟩ := at_L4 HR0.out x5_1 p208 q208; obtain rfl : ad204 = ad208 := (by injection e208); replace hx208_0 := (HB.out.cell (World.block_lt_of_cell? w _ hx208_0)).trans hx208_0; have HR208_0 := Aside0.mk hi208_0; have HC208_0 := Aside0.mk hl208_0; clear hi208_0 hl208_0; replace p208 := eq_true p208; replace q208 := eq_true q208; have p209 : 0 ≤ (x6_3 : Int) := da; have q209 : x6_3 < ((rd_L4 l0 x5_1).length : Int) := da; obtain ⟨ad209, e209, hx209_0, hx209_1⟩ := at_T59 HR208_0.out x6_3 p209 q209; cases e209; replace hx209_0 := (HB.out.cell (World.block_lt_of_cell? w _ hx209_0)).trans hx209_0; replace hx209_1 := (HB.out.cell (World.block_lt_of_cell? w _ hx209_1)).trans hx209_1; replace p209 := eq_true p209; replace q209 := eq_true q209))
         go_roundg k3
         case measure => have := HK1.out; have := HJ7.out; have := HK3.out; omega
         case rel => exact ⟨((x4_3 ++ (⟨#[44]⟩ : ByteArray)) ++ t207), (wrap64 (x6_3 + 1)), rf, rf, H', ⟨by have := HK1.out; have := HJ7.out; have := HK3.out; omega⟩, ⟨tb⟩⟩
       rw [if_neg c19] at H
       have c19b0 : (((rd_T59 (rd_L4 l0 x5_1) x6_3).f0) == 0) = false := beq_eq_false_iff_ne.mpr c19
       have c19b1 : (((rd_T59 (rd_L4 l0 x5_1) x6_3).f0) != 0) = true := bne_iff_ne.mpr c19
       by_cases c21 : ((x4_3 ++ (⟨#[44]⟩ : ByteArray)) ++ t207).size + ((rd_T59 (rd_L4 l0 x5_1) x6_3).f1).size ≤ 9223372036854775807
       rotate_left
       · rw [if_neg c21] at H
         exact absurd H (by simp)
       rw [if_pos c21] at H
       have c21b0 := eq_true c21
       have c21b1 : decide (((x4_3 ++ (⟨#[44]⟩ : ByteArray)) ++ t207).size + ((rd_T59 (rd_L4 l0 x5_1) x6_3).f1).size ≤ 9223372036854775807) = true := decide_eq_true c21
       try have c21b2 : (9223372036854775807 < ((x4_3 ++ (⟨#[44]⟩ : ByteArray)) ++ t207).size + ((rd_T59 (rd_L4 l0 x5_1) x6_3).f1).size) = False := eq_false (Nat.not_lt.2 c21)
       try have c21b3 : decide (x4_3.size + 1 + t207.size + ((rd_T59 (rd_L4 l0 x5_1) x6_3).f1).size ≤ 9223372036854775807) = true := decide_eq_true (by have h_ := c21; simp only [ByteArray.size_append] at h_; exact h_)
       try have c21b4 : (9223372036854775807 < x4_3.size + 1 + t207.size + ((rd_T59 (rd_L4 l0 x5_1) x6_3).f1).size) = False := eq_false (Nat.not_lt.2 (by have h_ := c21; simp only [ByteArray.size_append] at h_; exact h_))
       have H' := Aside0.mk H
       clear H
       have p204 : 0 ≤ (x5_1 : Int) := da
       have q204 : x5_1 < (l0.length : Int) := da
       obtain ⟨ad204, A204_0, c204_0, e204, hx204_0, hl204_0, hi204_0⟩ := at_L4 HR0.out x5_1 p204 q204
       cases e204
       replace hx204_0 := (HB.out.cell (World.block_lt_of_cell? w _ hx204_0)).trans hx204_0
       have HR204_0 := Aside0.mk hi204_0
       have HC204_0 := Aside0.mk hl204_0
       clear hi204_0 hl204_0
       replace p204 := eq_true p204
       replace q204 := eq_true q204
       have p205 : 0 ≤ (x5_1 : Int) := da
       have q205 : x5_1 < (l0.length : Int) := da
       obtain ⟨ad205, A205_0, c205_0, e205, hx205_0, hl205_0, hi205_0⟩ := at_L4 HR0.out x5_1 p205 q205
       obtain rfl : ad204 = ad205 := (by injection e205)
       replace hx205_0 := (HB.out.cell (World.block_lt_of_cell? w _ hx205_0)).trans hx205_0
       have HR205_0 := Aside0.mk hi205_0
       have HC205_0 := Aside0.mk hl205_0
       clear hi205_0 hl205_0
       replace p205 := eq_true p205
       replace q205 := eq_true q205
       have ea_ := Option.some.inj (hx204_0.symm.trans hx205_0)
       injection ea_ with ea_ en_ ec_
       subst ea_
       subst ec_
       clear en_
       have p206 : 0 ≤ (x6_3 : Int) := da
       have q206 : x6_3 < ((rd_L4 l0 x5_1).length : Int) := da
       obtain ⟨ad206, e206, hx206_0, hx206_1⟩ := at_T59 HR205_0.out x6_3 p206 q206
       cases e206
       replace hx206_0 := (HB.out.cell (World.block_lt_of_cell? w _ hx206_0)).trans hx206_0
       replace hx206_1 := (HB.out.cell (World.block_lt_of_cell? w _ hx206_1)).trans hx206_1
       replace p206 := eq_true p206
       replace q206 := eq_true q206
       go_wp2_with (first | ((with_reducible refine gate_callee (f := 56) rfl ?_); refine goesL_ (some 45) rfl rfl Tryz.func56 (by kernel_rfl) rfl #[.int .u8 ((rd_T59 (rd_L4 l0 x5_1) x6_3).f0)] rfl gl ?_; (with_reducible refine (tithebarnref14_sign.calls ((rd_T59 (rd_L4 l0 x5_1) x6_3).f0) t207 _ A17.out).mono ?_); rintro e w22 ⟨rfl, hb⟩; refine ⟨_, rfl, ?_⟩; replace HB := Aside0.mk (below_step tb hb); (try clear hb); have p208 : 0 ≤ (x5_1 : Int) := da; have q208 : x5_1 < (l0.length : Int) := da; obtain ⟨ad208, A208_0, c208_0, e208, hx208_0, hl208_0, hi208_0⟩ := at_L4 HR0.out x5_1 p208 q208; obtain rfl : ad204 = ad208 := (by injection e208); replace hx208_0 := (HB.out.cell (World.block_lt_of_cell? w _ hx208_0)).trans hx208_0; have HR208_0 := Aside0.mk hi208_0; have HC208_0 := Aside0.mk hl208_0; clear hi208_0 hl208_0; replace p208 := eq_true p208; replace q208 := eq_true q208; have p209 : 0 ≤ (x6_3 : Int) := da; have q209 : x6_3 < ((rd_L4 l0 x5_1).length : Int) := da; obtain ⟨ad209, e209, hx209_0, hx209_1⟩ := at_T59 HR208_0.out x6_3 p209 q209; cases e209; replace hx209_0 := (HB.out.cell (World.block_lt_of_cell? w _ hx209_0)).trans hx209_0; replace hx209_1 := (HB.out.cell (World.block_lt_of_cell? w _ hx209_1)).trans hx209_1; replace p209 := eq_true p209; replace q209 := eq_true q209; have p210 : 0 ≤ (x5_1 : Int) := da; have q210 : x5_1 < (l0.length : Int) := da; obtain ⟨ad210, A210_0, c210_0, e210, hx210_0, hl210_0, hi210_0⟩ := at_L4 HR0.out x5_1 p210 q210; obtain rfl : ad204 = ad210 := (by injection e210); replace hx210_0 := (HB.out.cell (World.block_lt_of_cell? w _ hx210_0)).trans hx210_0; have HR210_0 := Aside0.mk hi210_0; have HC210_0 := Aside0.mk hl210_0; clear hi210_0 hl210_0; replace p210 := eq_true p210; replace q210 := eq_true q210; have ea_ := Option.some.inj (hx208_0.symm.trans hx210_0); injection ea_ with ea_ en_ ec_; subst ea_; subst ec_; clear en_; have p211 : 0 ≤ (x6_3 : Int) := da; have q211 : x6_3 < ((rd_L4 l0 x5_1).length : Int) := da; obtain ⟨ad211, e211, hx211_0, hx211_1⟩ := at_T59 HR210_0.out x6_3 p211 q211; cases e211; replace hx211_0 := (HB.out.cell (World.block_lt_of_cell? w _ hx211_0)).trans hx211_0; replace hx211_1 := (HB.out.cell (World.block_lt_of_cell? w _ hx211_1)).trans hx211_1; replace p211 := eq_true p211; replace q211 := eq_true q211))
       go_roundg k3
       case measure => have := HK1.out; have := HJ7.out; have := HK3.out; omega
       case rel => exact ⟨(((x4_3 ++ (⟨#[44]⟩ : ByteArray)) ++ t207) ++ ((rd_T59 (rd_L4 l0 x5_1) x6_3).f1)), (wrap64 (x6_3 + 1)), rf, rf, H', ⟨by have := HK1.out; have := HJ7.out; have := HK3.out; omega⟩, ⟨tb⟩⟩
end Go.Proofs.YtnbmdecehlljcaaGreatDoor.PRq
