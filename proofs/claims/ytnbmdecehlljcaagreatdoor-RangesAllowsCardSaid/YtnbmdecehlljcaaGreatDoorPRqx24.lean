-- Laid by a program of this session (wip/tools/pgiven.py) out of the seat's translation. Lean checks it.
import Derived.Test.YtnbmdecehlljcaaGreatDoorRnW
import Derived.Test.YtnbmdecehlljcaaGreatDoorPRqx0
import Derived.Test.YtnbmdecehlljcaaGreatDoorPRqx2
import Derived.Test.YtnbmdecehlljcaaGreatDoorPRqx19
import Derived.Test.YtnbmdecehlljcaaGreatDoorPRqx21
import Derived.Test.YtnbmdecehlljcaaGreatDoorPRqx23
namespace Go.Proofs.YtnbmdecehlljcaaGreatDoor.PRq
open Go.RowKit Go.Proofs.YtnbmdecehlljcaaGreatDoorW.PrintWords Go.Proofs.YtnbmdecehlljcaaGreatDoorW.PrintLast Go.Proofs.YtnbmdecehlljcaaGreatDoorW.PrintMore
attribute [local go_sem] max2_int min2_int max_two min_two max_three min_three max_four min_four   -- for this text's walks alone
set_option linter.unusedVariables false
set_option linter.unusedSimpArgs false

attribute [local go_sem] isSome_setCellV
/-! ### tithebarnlaw14_RangesAllows: function 7 -/
mutual
def tithebarnlaw14_RangesAllows.j0 : Nat → List (List (S59)) → List ByteArray → Bool → Option (Bool)
 | 0, _, _, _ => none
 | k + 1, x0, x1, x13 => if x13 = true then ((tithebarnlaw14_works.f).bind fun t307 => (some t307)) else (tithebarnlaw14_RangesAllows.l0 k x0 x1 0)
def tithebarnlaw14_RangesAllows.l0 : Nat → List (List (S59)) → List ByteArray → Int → Option (Bool)
 | 0, _, _, _ => none
 | k + 1, x0, x1, x5 => if x5 < (x1.length : Int) then (if 0 ≤ x5 then (if ((rdOf ByteArray.empty x1 x5).size : Int) > 60 then ((tithebarnlaw14_works.f).bind fun t312 => (some t312)) else ((ranges_Allows.f x0 (rdOf ByteArray.empty x1 x5)).bind fun t314 => ((tithebarnref14_Allows.f k x0 (rdOf ByteArray.empty x1 x5)).bind fun t316 => (if (t314 != t316) = true then (some false) else (tithebarnlaw14_RangesAllows.l0 k x0 x1 (wrap64 (x5 + 1))))))) else (none)) else ((ranges_Best.f k x0 x1).bind fun t308 => ((tithebarnref14_Best.f k x0 x1).bind fun t309 => (if t308 = t309 then ((tithebarnlaw14_works.f).bind fun t310 => (some t310)) else (some false))))
end
def tithebarnlaw14_RangesAllows.f (k : Nat) (l0 : List (List (S59))) (l1 : List ByteArray) : Option (Bool) := (tithebarnkit_SmallRange.f k l0 1000).bind fun t306 => (if t306 = true then (tithebarnlaw14_RangesAllows.j0 k l0 l1 (decide ((l1.length : Int) > 20))) else (tithebarnlaw14_RangesAllows.j0 k l0 l1 true))
theorem tithebarnlaw14_RangesAllows.mono_l : ∀ k, (∀ y0 y1 y2, LeO (tithebarnlaw14_RangesAllows.j0 k y0 y1 y2) (tithebarnlaw14_RangesAllows.j0 (k + 1) y0 y1 y2)) ∧ (∀ y0 y1 y2, LeO (tithebarnlaw14_RangesAllows.l0 k y0 y1 y2) (tithebarnlaw14_RangesAllows.l0 (k + 1) y0 y1 y2))
 | 0 => ⟨fun _ _ _ r h => by simp [tithebarnlaw14_RangesAllows.j0] at h, fun _ _ _ r h => by simp [tithebarnlaw14_RangesAllows.l0] at h⟩
 | k + 1 => by
  obtain ⟨ih0, ih1⟩ := tithebarnlaw14_RangesAllows.mono_l k
  refine ⟨?_, ?_⟩
  · intro y0 y1 y2
    unfold tithebarnlaw14_RangesAllows.j0
    repeat' first
    | (with_reducible exact ih0 _ _ _)
    | (with_reducible exact ih1 _ _ _)
    | (with_reducible exact ranges_Best.mono _ _ _)
    | (with_reducible exact tithebarnkit_SmallRange.mono _ _ _)
    | (with_reducible exact tithebarnref14_Allows.mono _ _ _)
    | (with_reducible exact tithebarnref14_Best.mono _ _ _)
    | (with_reducible exact LeO.refl _)
    | (with_reducible exact LeO.none _)
    | (with_reducible refine LeO.ite ?_ ?_)
    | (with_reducible refine LeO.bind ?_ (fun _ => ?_))
    | exact ih0 _ _ _
    | exact ih1 _ _ _
    | exact ranges_Best.mono _ _ _
    | exact tithebarnkit_SmallRange.mono _ _ _
    | exact tithebarnref14_Allows.mono _ _ _
    | exact tithebarnref14_Best.mono _ _ _
    | exact LeO.none _
    | refine LeO.ite ?_ ?_
    | refine LeO.bind ?_ (fun _ => ?_)
  · intro y0 y1 y2
    unfold tithebarnlaw14_RangesAllows.l0
    repeat' first
    | (with_reducible exact ih0 _ _ _)
    | (with_reducible exact ih1 _ _ _)
    | (with_reducible exact ranges_Best.mono _ _ _)
    | (with_reducible exact tithebarnkit_SmallRange.mono _ _ _)
    | (with_reducible exact tithebarnref14_Allows.mono _ _ _)
    | (with_reducible exact tithebarnref14_Best.mono _ _ _)
    | (with_reducible exact LeO.refl _)
    | (with_reducible exact LeO.none _)
    | (with_reducible refine LeO.ite ?_ ?_)
    | (with_reducible refine LeO.bind ?_ (fun _ => ?_))
    | exact ih0 _ _ _
    | exact ih1 _ _ _
    | exact ranges_Best.mono _ _ _
    | exact tithebarnkit_SmallRange.mono _ _ _
    | exact tithebarnref14_Allows.mono _ _ _
    | exact tithebarnref14_Best.mono _ _ _
    | exact LeO.none _
    | refine LeO.ite ?_ ?_
    | refine LeO.bind ?_ (fun _ => ?_)
theorem tithebarnlaw14_RangesAllows.mono : ∀ a0 a1 k, LeO (tithebarnlaw14_RangesAllows.f k a0 a1) (tithebarnlaw14_RangesAllows.f (k + 1) a0 a1) := by
 intro a0 a1 k
 obtain ⟨ih0, ih1⟩ := tithebarnlaw14_RangesAllows.mono_l k
 unfold tithebarnlaw14_RangesAllows.f
 repeat' first
  | (with_reducible exact ih0 _ _ _)
  | (with_reducible exact ih1 _ _ _)
  | (with_reducible exact ranges_Best.mono _ _ _)
  | (with_reducible exact tithebarnkit_SmallRange.mono _ _ _)
  | (with_reducible exact tithebarnref14_Allows.mono _ _ _)
  | (with_reducible exact tithebarnref14_Best.mono _ _ _)
  | (with_reducible exact LeO.refl _)
  | (with_reducible exact LeO.none _)
  | (with_reducible refine LeO.ite ?_ ?_)
  | (with_reducible refine LeO.bind ?_ (fun _ => ?_))
  | exact ih0 _ _ _
  | exact ih1 _ _ _
  | exact ranges_Best.mono _ _ _
  | exact tithebarnkit_SmallRange.mono _ _ _
  | exact tithebarnref14_Allows.mono _ _ _
  | exact tithebarnref14_Best.mono _ _ _
  | exact LeO.none _
  | refine LeO.ite ?_ ?_
  | refine LeO.bind ?_ (fun _ => ?_)
def tithebarnlaw14_RangesAllows.T8 : Bool × List (List Nat × List Nat) := (true, [([], []), ([], []), ([], []), ([1, 2], [1, 2]), ([3], [3]), ([0, 4], [0, 4]), ([], []), ([], []), ([], []), ([7, 8], [7, 8]), ([9], [9]), ([6, 10, 5], [6, 10]), ([5, 11], [5, 11])])
def tithebarnlaw14_RangesAllows.B8 : List Nat := [0, 0, 0, 6, 14, 31, 0, 0, 0, 384, 896, 2047, 4095]
theorem tithebarnlaw14_RangesAllows.tab8 : rtab .any (opsOf Tryz.f7 8) = tithebarnlaw14_RangesAllows.T8 := by kernel_rfl
theorem tithebarnlaw14_RangesAllows.bits8 : waitsOk tithebarnlaw14_RangesAllows.T8.2 tithebarnlaw14_RangesAllows.B8 = true := by kernel_rfl
set_option maxHeartbeats 8000000 in
set_option maxRecDepth 100000 in
theorem tithebarnlaw14_RangesAllows.calls (k : Nat) (A0 : Option Addr) (c0 : Nat) (l0 : List (List (S59))) (A1 : Option Addr) (c1 : Nat) (l1 : List ByteArray) (r : Bool) (w : World) (hr0 : Kd.C (Kd.slice 59 k59) w A0 l0.length l0) (hc0 : l0.length ≤ c0) (hr1 : Kd.C Kd.string w A1 l1.length l1) (hc1 : l1.length ≤ c1) (hT : RTabs w) (h : tithebarnlaw14_RangesAllows.f k l0 l1 = some r) :
 Calls Tryz.prog 7 #[.slice A0 l0.length c0, .slice A1 l1.length c1] w fun e w' => e = .returned (.bool r) ∧ Below w.heap.size w w' := by
 have HR0 := Aside0.mk hr0
 have HC0 := Aside0.mk hc0
 clear hr0 hc0
 have HR1 := Aside0.mk hr1
 have HC1 := Aside0.mk hc1
 clear hr1 hc1
 have HB := Aside0.mk (Below.refl w.heap.size w)
 have HTabs := Aside0.mk hT
 clear hT
 have H : ((tithebarnkit_SmallRange.f k l0 1000).bind fun t306 => (if t306 = true then (tithebarnlaw14_RangesAllows.j0 k l0 l1 (decide ((l1.length : Int) > 20))) else (tithebarnlaw14_RangesAllows.j0 k l0 l1 true))) = some r := h
 clear h
 have HC3 := Aside0.mk H
 clear H
 go_enter Tryz.func7, Tryz.ntmps7
 go_upto_region 1 with (fail)
 go_cut [13] (fun v13 wc => ∃ (kq : Nat) (x13_2 : Bool), v13 = .bool x13_2 ∧ Aside0 (tithebarnlaw14_RangesAllows.j0 kq l0 l1 x13_2 = some r) ∧ Aside0 (kq ≤ k) ∧ Aside0 (Below w.heap.size w wc))
 case first =>
  have H := HC3.out
  clear HC3
  obtain ⟨t306, A40, H⟩ := Option.bind_eq_some_iff.mp H
  have A4 := Aside0.mk A40
  clear A40
  by_cases c5 : t306 = true
  · subst c5
    rw [if_pos rfl] at H
    have H' := Aside0.mk H
    clear H
    go_wp2_with (first | ((with_reducible refine gate_callee (f := 25) rfl ?_); refine goesL_ (some 7) rfl rfl Tryz.func25 (by kernel_rfl) rfl #[.slice A0 l0.length c0, .int .i64 1000] rfl gl ?_; (with_reducible refine (tithebarnkit_SmallRange.calls k _ _ l0 1000 true _ ?side1 ?side2 A4.out).mono ?_); (case side1 => exact pC (Kd.C_below HR0.out HB.out)); (case side2 => exact HC0.out); rintro e w' ⟨rfl, ⟨nd, rfl⟩⟩; refine ⟨_, rfl, ?_⟩))
    go_meet
    case rel => exact ⟨_, (decide ((l1.length : Int) > 20)), rf, H', ⟨by first | omega | exact Nat.le_refl _⟩, ⟨tb⟩⟩
  replace c5 := Bool.eq_false_iff.mpr c5
  subst c5
  rw [if_neg (show ¬ (false = true) by decide)] at H
  have H' := Aside0.mk H
  clear H
  go_wp2_with (first | ((with_reducible refine gate_callee (f := 25) rfl ?_); refine goesL_ (some 7) rfl rfl Tryz.func25 (by kernel_rfl) rfl #[.slice A0 l0.length c0, .int .i64 1000] rfl gl ?_; (with_reducible refine (tithebarnkit_SmallRange.calls k _ _ l0 1000 false _ ?side1 ?side2 A4.out).mono ?_); (case side1 => exact pC (Kd.C_below HR0.out HB.out)); (case side2 => exact HC0.out); rintro e w' ⟨rfl, ⟨nd, rfl⟩⟩; refine ⟨_, rfl, ?_⟩))
  go_meet
  case rel => exact ⟨_, (true), rf, H', ⟨by first | omega | exact Nat.le_refl _⟩, ⟨tb⟩⟩
 case rest =>
  clear HC3
  try clear c1
  try clear c2
  try clear p2
  try clear c5
  obtain ⟨kq, x13_2, rfl, HA, HJ2, HB⟩ := hcut
  cases kq with
  | zero => exact absurd HA.out (by simp [tithebarnlaw14_RangesAllows.j0])
  | succ kj2 =>
   have H := HA.out
   clear HA
   simp only [tithebarnlaw14_RangesAllows.j0] at H
   by_cases c6 : x13_2 = true
   · subst c6
     rw [if_pos rfl] at H
     obtain ⟨t307, A70, H⟩ := Option.bind_eq_some_iff.mp H
     have A7 := Aside0.mk A70
     clear A70
     obtain rfl := Option.some.inj H
     go_wp2_with (first | ((with_reducible refine gate_callee (f := 21) rfl ?_); refine goesL_ (some 14) rfl rfl Tryz.func21 (by kernel_rfl) rfl #[] rfl gl ?_; (with_reducible refine (tithebarnlaw14_works.calls  t307 _ ?side1 A7.out).mono ?_); (case side1 => exact RTabs.below HTabs.out tb); rintro e w8 ⟨rfl, hb⟩; refine ⟨_, rfl, ?_⟩; replace HB := Aside0.mk (below_step tb hb); (try clear hb)))
     go_ret
     exact ⟨by first | rfl | (simp [errW_none, errW_some] <;> rfl) | (simp [*, errW_none, errW_some] <;> rfl), tb⟩
   replace c6 := Bool.eq_false_iff.mpr c6
   subst c6
   rw [if_neg (show ¬ (false = true) by decide)] at H
   have H' := Aside0.mk H
   clear H
   go_wp2
   go_loopg [5] kj2 (fun kq v5 w' => ∃ (x5_2 : Int), v5 = .int .i64 x5_2 ∧ Aside0 (tithebarnlaw14_RangesAllows.l0 kq l0 l1 x5_2 = some r) ∧ Aside0 (kq ≤ kj2) ∧ Aside0 (Below w.heap.size w w'))
   case atStart => exact ⟨(0), rf, H', ⟨Nat.le_refl _⟩, ⟨tb⟩⟩
   case round =>
    clear H'
    try clear c1
    try clear c2
    try clear p2
    try clear c5
    try clear c6
    try clear c7
    try clear p2
    obtain ⟨x5_2, rfl, HA, HK2, HB⟩ := hrel
    cases gk with
    | zero => exact absurd HA.out (by simp [tithebarnlaw14_RangesAllows.l0])
    | succ k2 =>
     have H := HA.out
     clear HA
     simp only [tithebarnlaw14_RangesAllows.l0] at H
     by_cases c9 : x5_2 < (l1.length : Int)
     rotate_left
     · rw [if_neg c9] at H
       have c9b0 : decide (x5_2 < (l1.length : Int)) = false := decide_eq_false c9
       clear c9
       obtain ⟨t308, A230, H⟩ := Option.bind_eq_some_iff.mp H
       have A23 := Aside0.mk A230
       clear A230
       obtain ⟨t309, A240, H⟩ := Option.bind_eq_some_iff.mp H
       have A24 := Aside0.mk A240
       clear A240
       by_cases c25 : t308 = t309
       rotate_left
       · rw [if_neg c25] at H
         have c25b0 : (t308 == t309) = false := beq_eq_false_iff_ne.mpr c25
         have c25b1 : (t308 != t309) = true := bne_iff_ne.mpr c25
         obtain rfl := Option.some.inj H
         go_wp2_with (first | ((with_reducible refine gate_callee (f := 30) rfl ?_); refine goesL_ (some 43) rfl rfl Tryz.func30 (by kernel_rfl) rfl #[.slice A0 l0.length c0, .slice A1 l1.length c1] rfl gl ?_; (with_reducible refine (ranges_Best.calls k2 _ _ l0 _ _ l1 t308 _ ?side1 ?side2 ?side3 ?side4 ?side5 A23.out).mono ?_); (case side1 => exact pC (Kd.C_below HR0.out HB.out)); (case side2 => exact HC0.out); (case side3 => exact pC (Kd.C_below HR1.out HB.out)); (case side4 => exact HC1.out); (case side5 => exact RTabs.below HTabs.out tb); rintro e w30 ⟨rfl, hb⟩; refine ⟨_, rfl, ?_⟩; replace HB := Aside0.mk (below_step tb hb); (try clear hb)) | ((with_reducible refine gate_callee (f := 31) rfl ?_); refine goesL_ (some 46) rfl rfl Tryz.func31 (by kernel_rfl) rfl #[.slice A0 l0.length c0, .slice A1 l1.length c1] rfl gl ?_; (with_reducible refine (tithebarnref14_Best.calls k2 _ _ l0 _ _ l1 t309 _ ?side1 ?side2 ?side3 ?side4 A24.out).mono ?_); (case side1 => exact pC (Kd.C_below HR0.out HB.out)); (case side2 => exact HC0.out); (case side3 => exact pC (Kd.C_below HR1.out HB.out)); (case side4 => exact HC1.out); rintro e w31 ⟨rfl, hb⟩; refine ⟨_, rfl, ?_⟩; replace HB := Aside0.mk (below_step tb hb); (try clear hb)))
         go_ret
         exact ⟨by first | rfl | (simp [errW_none, errW_some] <;> rfl) | (simp [*, errW_none, errW_some] <;> rfl), tb⟩

       rw [if_pos c25] at H
       have c25b0 : (t308 == t309) = true := beq_iff_eq.mpr c25
       have c25b1 : (t308 != t309) = false := bne_eq_false_iff_eq.mpr c25
       clear c25
       obtain ⟨t310, A260, H⟩ := Option.bind_eq_some_iff.mp H
       have A26 := Aside0.mk A260
       clear A260
       obtain rfl := Option.some.inj H
       go_wp2_with (first | ((with_reducible refine gate_callee (f := 30) rfl ?_); refine goesL_ (some 43) rfl rfl Tryz.func30 (by kernel_rfl) rfl #[.slice A0 l0.length c0, .slice A1 l1.length c1] rfl gl ?_; (with_reducible refine (ranges_Best.calls k2 _ _ l0 _ _ l1 t308 _ ?side1 ?side2 ?side3 ?side4 ?side5 A23.out).mono ?_); (case side1 => exact pC (Kd.C_below HR0.out HB.out)); (case side2 => exact HC0.out); (case side3 => exact pC (Kd.C_below HR1.out HB.out)); (case side4 => exact HC1.out); (case side5 => exact RTabs.below HTabs.out tb); rintro e w27 ⟨rfl, hb⟩; refine ⟨_, rfl, ?_⟩; replace HB := Aside0.mk (below_step tb hb); (try clear hb)) | ((with_reducible refine gate_callee (f := 31) rfl ?_); refine goesL_ (some 46) rfl rfl Tryz.func31 (by kernel_rfl) rfl #[.slice A0 l0.length c0, .slice A1 l1.length c1] rfl gl ?_; (with_reducible refine (tithebarnref14_Best.calls k2 _ _ l0 _ _ l1 t309 _ ?side1 ?side2 ?side3 ?side4 A24.out).mono ?_); (case side1 => exact pC (Kd.C_below HR0.out HB.out)); (case side2 => exact HC0.out); (case side3 => exact pC (Kd.C_below HR1.out HB.out)); (case side4 => exact HC1.out); rintro e w28 ⟨rfl, hb⟩; refine ⟨_, rfl, ?_⟩; replace HB := Aside0.mk (below_step tb hb); (try clear hb)) | (go_at_call 21; (with_reducible refine (tithebarnlaw14_works.calls  t310 _ ?side1 A26.out).mono ?_); (case side1 => exact RTabs.below HTabs.out tb); rintro e w29 ⟨rfl, hb⟩; replace HB := Aside0.mk (below_step tb hb); (try clear hb)))
       go_ret
       exact ⟨by first | rfl | (simp [errW_none, errW_some] <;> rfl) | (simp [*, errW_none, errW_some] <;> rfl), tb⟩
     rw [if_pos c9] at H
     have c9b0 : decide (x5_2 < (l1.length : Int)) = true := decide_eq_true c9
     clear c9
     by_cases c10 : 0 ≤ x5_2
     rotate_left
     · rw [if_neg c10] at H
       exact absurd H (by simp)
     rw [if_pos c10] at H
     have c10b0 : decide (0 ≤ x5_2) = true := decide_eq_true c10
     clear c10
     by_cases c11 : ((rdOf ByteArray.empty l1 x5_2).size : Int) > 60
     · rw [if_pos c11] at H
       have c11b0 : decide (60 < ((rdOf ByteArray.empty l1 x5_2).size : Int)) = true := decide_eq_true c11
       have c11b1 : decide (60 < (rdOf ByteArray.empty l1 x5_2).size) = true := decide_eq_true (by omega)
       clear c11
       obtain ⟨t312, A120, H⟩ := Option.bind_eq_some_iff.mp H
       have A12 := Aside0.mk A120
       clear A120
       obtain rfl := Option.some.inj H
       have p311 : 0 ≤ (x5_2 : Int) := da
       have q311 : x5_2 < (l1.length : Int) := da
       obtain ⟨ad311, e311, hx311_0⟩ := Kd.at_string HR1.out x5_2 p311 q311
       cases e311
       replace hx311_0 := (HB.out.cell (World.block_lt_of_cell? w _ hx311_0)).trans hx311_0
       replace p311 := eq_true p311
       replace q311 := eq_true q311
       go_wp2_with (first | ((with_reducible refine gate_callee (f := 21) rfl ?_); refine goesL_ (some 27) rfl rfl Tryz.func21 (by kernel_rfl) rfl #[] rfl gl ?_; (with_reducible refine (tithebarnlaw14_works.calls  t312 _ ?side1 A12.out).mono ?_); (case side1 => exact RTabs.below HTabs.out tb); rintro e w13 ⟨rfl, hb⟩; refine ⟨_, rfl, ?_⟩; replace HB := Aside0.mk (below_step tb hb); (try clear hb)))
       go_ret
       exact ⟨by first | rfl | (simp [errW_none, errW_some] <;> rfl) | (simp [*, errW_none, errW_some] <;> rfl), tb⟩
     rw [if_neg c11] at H
     have c11b0 : decide (60 < ((rdOf ByteArray.empty l1 x5_2).size : Int)) = false := decide_eq_false c11
     have c11b1 : decide (60 < (rdOf ByteArray.empty l1 x5_2).size) = false := decide_eq_false (by omega)
     clear c11
     obtain ⟨t314, A140, H⟩ := Option.bind_eq_some_iff.mp H
     have A14 := Aside0.mk A140
     clear A140
     obtain ⟨t316, A150, H⟩ := Option.bind_eq_some_iff.mp H
     have A15 := Aside0.mk A150
     clear A150
     by_cases c16 : (t314 != t316) = true
     · rw [if_pos c16] at H
       have c16b0 : (t314 != t316) = true := c16
       (try (have c16b1 : decide (t314 = t316) = false := by simpa using c16))
       (try (have c16b2 : (t314 == t316) = false := by simpa using c16))
       (try (have c16b3 : ¬ (t314 = t316) := by simpa using c16))
       clear c16
       obtain rfl := Option.some.inj H
       have p311 : 0 ≤ (x5_2 : Int) := da
       have q311 : x5_2 < (l1.length : Int) := da
       obtain ⟨ad311, e311, hx311_0⟩ := Kd.at_string HR1.out x5_2 p311 q311
       cases e311
       replace hx311_0 := (HB.out.cell (World.block_lt_of_cell? w _ hx311_0)).trans hx311_0
       replace p311 := eq_true p311
       replace q311 := eq_true q311
       try go_wp2
       replace HB := Aside0.mk (below_drew1 HB.out)
       have p313 : 0 ≤ (x5_2 : Int) := da
       have q313 : x5_2 < (l1.length : Int) := da
       obtain ⟨ad313, e313, hx313_0⟩ := Kd.at_string HR1.out x5_2 p313 q313
       have hw313_0 := hx313_0
       obtain rfl : ad311 = ad313 := (by injection e313)
       replace hx313_0 := (HB.out.cell (World.block_lt_of_cell? w _ hx313_0)).trans hx313_0
       replace p313 := eq_true p313
       replace q313 := eq_true q313
       have p315 : 0 ≤ (x5_2 : Int) := da
       have q315 : x5_2 < (l1.length : Int) := da
       obtain ⟨ad315, e315, hx315_0⟩ := Kd.at_string HR1.out x5_2 p315 q315
       have hw315_0 := hx315_0
       obtain rfl : ad311 = ad315 := (by injection e315)
       replace hx315_0 := (HB.out.cell (World.block_lt_of_cell? w _ hx315_0)).trans hx315_0
       replace p315 := eq_true p315
       replace q315 := eq_true q315
       refine start_ (n := 13) (S := fun w' => w'.cell? (ad311.add (x5_2).toNat) = some (.string (rdOf ByteArray.empty l1 x5_2)) ∧ w'.cell? (ad311.add (x5_2).toNat) = some (.string (rdOf ByteArray.empty l1 x5_2))) (ds := []) #[false, false, false, false, false, false, false, false, false, false, false, false, false] (by kernel_rfl) rfl rfl ⟨((HB.out.cell (World.block_lt_of_cell? w _ hw313_0)).trans hw313_0), ((HB.out.cell (World.block_lt_of_cell? w _ hw315_0)).trans hw315_0)⟩ (fun hHeld => ?_); refine with_tabW tithebarnlaw14_RangesAllows.tab8 tithebarnlaw14_RangesAllows.bits8 (fun HT_ HW_ => ?_)
       generalize wr.drew = w17 at HB hx313_0 hx315_0 hHeld ⊢
       refine pure_ (i := 0) (N := some 28) (v := ?_) (a' := ?_) #[true, false, false, false, false, false, false, false, false, false, false, false, false] rfl rfl (any_of HT_.out (by kernel_rfl)) (fun _ _ _ h => h) (Or.inl ⟨by rfl, ?_⟩) ?_ ?_
       rotate_left
       · intro w'
         go_simp
         with_reducible rfl
       rotate_left
       · simp only [Act.put, List.setIfInBounds_toArray, List.set_cons_zero, List.set_cons_succ, i64_w, i32_w]
         rfl
       refine pure_ (i := 1) (N := some 29) (v := ?_) (a' := ?_) #[true, true, false, false, false, false, false, false, false, false, false, false, false] rfl rfl (any_of HT_.out (by kernel_rfl)) (fun _ _ _ h => h) (Or.inl ⟨by rfl, ?_⟩) ?_ ?_
       rotate_left
       · intro w'
         go_simp
         with_reducible rfl
       rotate_left
       · simp only [Act.put, List.setIfInBounds_toArray, List.set_cons_zero, List.set_cons_succ, i64_w, i32_w]
         rfl
       refine pure_ (i := 2) (N := some 30) (v := ?_) (a' := ?_) #[true, true, true, false, false, false, false, false, false, false, false, false, false] rfl rfl (any_of HT_.out (by kernel_rfl)) (fun _ _ _ h => h) (Or.inl ⟨by rfl, ?_⟩) ?_ ?_
       rotate_left
       · intro w'
         go_simp
         with_reducible rfl
       rotate_left
       · simp only [Act.put, List.setIfInBounds_toArray, List.set_cons_zero, List.set_cons_succ, i64_w, i32_w]
         rfl
       refine pure_ (i := 3) (N := some 31) (v := ?_) (a' := ?_) #[true, true, true, true, false, false, false, false, false, false, false, false, false] rfl rfl (any_of HT_.out (by kernel_rfl)) (fun _ _ _ h => h) (Or.inl ⟨by rfl, ?_⟩) ?_ ?_
       rotate_left
       · intro w'
         go_simp
         with_reducible rfl
       rotate_left
       · simp only [Act.put, List.setIfInBounds_toArray, List.set_cons_zero, List.set_cons_succ, i64_w, i32_w]
         rfl
       refine pure_ (i := 6) (N := some 34) (v := ?_) (a' := ?_) #[true, true, true, true, false, false, true, false, false, false, false, false, false] rfl rfl (any_of HT_.out (by kernel_rfl)) (fun _ _ _ h => h) (Or.inl ⟨by rfl, ?_⟩) ?_ ?_
       rotate_left
       · intro w'
         go_simp
         with_reducible rfl
       rotate_left
       · simp only [Act.put, List.setIfInBounds_toArray, List.set_cons_zero, List.set_cons_succ, i64_w, i32_w]
         rfl
       refine pure_ (i := 7) (N := some 35) (v := ?_) (a' := ?_) #[true, true, true, true, false, false, true, true, false, false, false, false, false] rfl rfl (any_of HT_.out (by kernel_rfl)) (fun _ _ _ h => h) (Or.inl ⟨by rfl, ?_⟩) ?_ ?_
       rotate_left
       · intro w'
         go_simp
         with_reducible rfl
       rotate_left
       · simp only [Act.put, List.setIfInBounds_toArray, List.set_cons_zero, List.set_cons_succ, i64_w, i32_w]
         rfl
       refine pure_ (i := 8) (N := some 36) (v := ?_) (a' := ?_) #[true, true, true, true, false, false, true, true, true, false, false, false, false] rfl rfl (any_of HT_.out (by kernel_rfl)) (fun _ _ _ h => h) (Or.inl ⟨by rfl, ?_⟩) ?_ ?_
       rotate_left
       · intro w'
         go_simp
         with_reducible rfl
       rotate_left
       · simp only [Act.put, List.setIfInBounds_toArray, List.set_cons_zero, List.set_cons_succ, i64_w, i32_w]
         rfl
       refine pure_ (i := 9) (N := some 37) (v := ?_) (a' := ?_) #[true, true, true, true, false, false, true, true, true, true, false, false, false] rfl rfl (any_of HT_.out (by kernel_rfl)) (fun _ _ _ h => h) (Or.inl ⟨by rfl, ?_⟩) ?_ ?_
       rotate_left
       · intro w'
         go_simp
         with_reducible rfl
       rotate_left
       · simp only [Act.put, List.setIfInBounds_toArray, List.set_cons_zero, List.set_cons_succ, i64_w, i32_w]
         rfl
       refine take_ (i := 4) (N := some 32) (v := ?_) (a' := ?_) #[true, true, true, true, true, false, true, true, true, true, false, false, false] rfl rfl (take_ofW HT_.out HW_.out (by kernel_rfl)) (fun _ _ _ h => h) (Or.inl ⟨by rfl, ?_⟩) hHeld ?_ ?_
       rotate_left
       · rintro w' ⟨s0, s1⟩
         go_simp
         with_reducible rfl
       rotate_left
       · simp only [Act.put, List.setIfInBounds_toArray, List.set_cons_zero, List.set_cons_succ, i64_w, i32_w]
         rfl
       refine take_ (i := 10) (N := some 38) (v := ?_) (a' := ?_) #[true, true, true, true, true, false, true, true, true, true, true, false, false] rfl rfl (take_ofW HT_.out HW_.out (by kernel_rfl)) (fun _ _ _ h => h) (Or.inl ⟨by rfl, ?_⟩) hHeld ?_ ?_
       rotate_left
       · rintro w' ⟨s0, s1⟩
         go_simp
         with_reducible rfl
       rotate_left
       · simp only [Act.put, List.setIfInBounds_toArray, List.set_cons_zero, List.set_cons_succ, i64_w, i32_w]
         rfl
       refine one_ (i := 5) (N := some 33) #[true, true, true, true, true, true, true, true, true, true, true, false, false] rfl rfl (one_of HT_.out (by kernel_rfl)) (by decide) (fun K hK => ?_)
       refine goes_ Tryz.func28 (by kernel_rfl) rfl #[.slice A0 l0.length c0, .string (rdOf ByteArray.empty l1 x5_2)] (by rfl) rfl rfl gl ?_
       with_reducible refine (ranges_Allows.calls _ _ l0 (rdOf ByteArray.empty l1 x5_2) t314 _ ?side1 ?side2 ?side3 A14.out).mono ?_
       (case side1 => exact pC (Kd.C_below HR0.out HB.out))
       (case side2 => exact HC0.out)
       (case side3 => exact RTabs.below HTabs.out tb)
       rintro e w18 ⟨rfl, hb⟩
       refine ⟨_, rfl, ?_⟩
       replace HB := Aside0.mk (below_step tb hb)
       (try clear hb)
       (try clear hb2)
       (try clear hk)
       (try clear hi)
       refine hK.out _ _ ⟨((HB.out.cell (World.block_lt_of_cell? w _ hw313_0)).trans hw313_0), ((HB.out.cell (World.block_lt_of_cell? w _ hw315_0)).trans hw315_0)⟩ (fun hHeld => ?_)
       clear hK K
       refine norm_ (a' := ?_) ?_ ?_
       rotate_left
       · show Act.put _ (some 33) _ = _
         simp only [Act.put, List.setIfInBounds_toArray, List.set_cons_zero, List.set_cons_succ, i64_w, i32_w]
         rfl
       refine one_ (i := 11) (N := some 39) #[true, true, true, true, true, true, true, true, true, true, true, true, false] rfl rfl (one_of HT_.out (by kernel_rfl)) (by decide) (fun K hK => ?_)
       refine goes_ Tryz.func29 (by kernel_rfl) rfl #[.slice A0 l0.length c0, .string (rdOf ByteArray.empty l1 x5_2)] (by rfl) rfl rfl gl ?_
       with_reducible refine (tithebarnref14_Allows.calls k2 _ _ l0 (rdOf ByteArray.empty l1 x5_2) t316 _ ?side1 ?side2 A15.out).mono ?_
       (case side1 => exact pC (Kd.C_below HR0.out HB.out))
       (case side2 => exact HC0.out)
       rintro e w19 ⟨rfl, hb⟩
       refine ⟨_, rfl, ?_⟩
       replace HB := Aside0.mk (below_step tb hb)
       (try clear hb)
       (try clear hb2)
       (try clear hk)
       (try clear hi)
       refine hK.out _ _ ⟨((HB.out.cell (World.block_lt_of_cell? w _ hw313_0)).trans hw313_0), ((HB.out.cell (World.block_lt_of_cell? w _ hw315_0)).trans hw315_0)⟩ (fun hHeld => ?_)
       clear hK K
       refine norm_ (a' := ?_) ?_ ?_
       rotate_left
       · show Act.put _ (some 39) _ = _
         simp only [Act.put, List.setIfInBounds_toArray, List.set_cons_zero, List.set_cons_succ, i64_w, i32_w]
         rfl
       refine pure_ (i := 12) (N := some 40) (v := ?_) (a' := ?_) #[true, true, true, true, true, true, true, true, true, true, true, true, true] rfl rfl (any_of HT_.out (by kernel_rfl)) (fun _ _ _ h => h) (Or.inl ⟨by rfl, ?_⟩) ?_ ?_
       rotate_left
       · intro w'
         go_simp
         with_reducible rfl
       rotate_left
       · simp only [Act.put, List.setIfInBounds_toArray, List.set_cons_zero, List.set_cons_succ, i64_w, i32_w]
         rfl
       refine done_ (done_of HT_.out (by kernel_rfl)) ?_
       try go_wp2
       go_ret
       exact ⟨by first | rfl | (simp [errW_none, errW_some] <;> rfl) | (simp [*, errW_none, errW_some] <;> rfl), tb⟩
     rw [if_neg c16] at H
     have c16b0 : (t314 != t316) = false := by simpa using c16
     (try (have c16b1 : decide (t314 = t316) = true := by simpa using c16))
     (try (have c16b2 : (t314 == t316) = true := by simpa using c16))
     clear c16
     have H' := Aside0.mk H
     clear H
     have p311 : 0 ≤ (x5_2 : Int) := da
     have q311 : x5_2 < (l1.length : Int) := da
     obtain ⟨ad311, e311, hx311_0⟩ := Kd.at_string HR1.out x5_2 p311 q311
     cases e311
     replace hx311_0 := (HB.out.cell (World.block_lt_of_cell? w _ hx311_0)).trans hx311_0
     replace p311 := eq_true p311
     replace q311 := eq_true q311
     try go_wp2
     replace HB := Aside0.mk (below_drew1 HB.out)
     have p313 : 0 ≤ (x5_2 : Int) := da
     have q313 : x5_2 < (l1.length : Int) := da
     obtain ⟨ad313, e313, hx313_0⟩ := Kd.at_string HR1.out x5_2 p313 q313
     have hw313_0 := hx313_0
     obtain rfl : ad311 = ad313 := (by injection e313)
     replace hx313_0 := (HB.out.cell (World.block_lt_of_cell? w _ hx313_0)).trans hx313_0
     replace p313 := eq_true p313
     replace q313 := eq_true q313
     have p315 : 0 ≤ (x5_2 : Int) := da
     have q315 : x5_2 < (l1.length : Int) := da
     obtain ⟨ad315, e315, hx315_0⟩ := Kd.at_string HR1.out x5_2 p315 q315
     have hw315_0 := hx315_0
     obtain rfl : ad311 = ad315 := (by injection e315)
     replace hx315_0 := (HB.out.cell (World.block_lt_of_cell? w _ hx315_0)).trans hx315_0
     replace p315 := eq_true p315
     replace q315 := eq_true q315
     refine start_ (n := 13) (S := fun w' => w'.cell? (ad311.add (x5_2).toNat) = some (.string (rdOf ByteArray.empty l1 x5_2)) ∧ w'.cell? (ad311.add (x5_2).toNat) = some (.string (rdOf ByteArray.empty l1 x5_2))) (ds := []) #[false, false, false, false, false, false, false, false, false, false, false, false, false] (by kernel_rfl) rfl rfl ⟨((HB.out.cell (World.block_lt_of_cell? w _ hw313_0)).trans hw313_0), ((HB.out.cell (World.block_lt_of_cell? w _ hw315_0)).trans hw315_0)⟩ (fun hHeld => ?_); refine with_tabW tithebarnlaw14_RangesAllows.tab8 tithebarnlaw14_RangesAllows.bits8 (fun HT_ HW_ => ?_)
     generalize wr.drew = w20 at HB hx313_0 hx315_0 hHeld ⊢
     refine pure_ (i := 0) (N := some 28) (v := ?_) (a' := ?_) #[true, false, false, false, false, false, false, false, false, false, false, false, false] rfl rfl (any_of HT_.out (by kernel_rfl)) (fun _ _ _ h => h) (Or.inl ⟨by rfl, ?_⟩) ?_ ?_
     rotate_left
     · intro w'
       go_simp
       with_reducible rfl
     rotate_left
     · simp only [Act.put, List.setIfInBounds_toArray, List.set_cons_zero, List.set_cons_succ, i64_w, i32_w]
       rfl
     refine pure_ (i := 1) (N := some 29) (v := ?_) (a' := ?_) #[true, true, false, false, false, false, false, false, false, false, false, false, false] rfl rfl (any_of HT_.out (by kernel_rfl)) (fun _ _ _ h => h) (Or.inl ⟨by rfl, ?_⟩) ?_ ?_
     rotate_left
     · intro w'
       go_simp
       with_reducible rfl
     rotate_left
     · simp only [Act.put, List.setIfInBounds_toArray, List.set_cons_zero, List.set_cons_succ, i64_w, i32_w]
       rfl
     refine pure_ (i := 2) (N := some 30) (v := ?_) (a' := ?_) #[true, true, true, false, false, false, false, false, false, false, false, false, false] rfl rfl (any_of HT_.out (by kernel_rfl)) (fun _ _ _ h => h) (Or.inl ⟨by rfl, ?_⟩) ?_ ?_
     rotate_left
     · intro w'
       go_simp
       with_reducible rfl
     rotate_left
     · simp only [Act.put, List.setIfInBounds_toArray, List.set_cons_zero, List.set_cons_succ, i64_w, i32_w]
       rfl
     refine pure_ (i := 3) (N := some 31) (v := ?_) (a' := ?_) #[true, true, true, true, false, false, false, false, false, false, false, false, false] rfl rfl (any_of HT_.out (by kernel_rfl)) (fun _ _ _ h => h) (Or.inl ⟨by rfl, ?_⟩) ?_ ?_
     rotate_left
     · intro w'
       go_simp
       with_reducible rfl
     rotate_left
     · simp only [Act.put, List.setIfInBounds_toArray, List.set_cons_zero, List.set_cons_succ, i64_w, i32_w]
       rfl
     refine pure_ (i := 6) (N := some 34) (v := ?_) (a' := ?_) #[true, true, true, true, false, false, true, false, false, false, false, false, false] rfl rfl (any_of HT_.out (by kernel_rfl)) (fun _ _ _ h => h) (Or.inl ⟨by rfl, ?_⟩) ?_ ?_
     rotate_left
     · intro w'
       go_simp
       with_reducible rfl
     rotate_left
     · simp only [Act.put, List.setIfInBounds_toArray, List.set_cons_zero, List.set_cons_succ, i64_w, i32_w]
       rfl
     refine pure_ (i := 7) (N := some 35) (v := ?_) (a' := ?_) #[true, true, true, true, false, false, true, true, false, false, false, false, false] rfl rfl (any_of HT_.out (by kernel_rfl)) (fun _ _ _ h => h) (Or.inl ⟨by rfl, ?_⟩) ?_ ?_
     rotate_left
     · intro w'
       go_simp
       with_reducible rfl
     rotate_left
     · simp only [Act.put, List.setIfInBounds_toArray, List.set_cons_zero, List.set_cons_succ, i64_w, i32_w]
       rfl
     refine pure_ (i := 8) (N := some 36) (v := ?_) (a' := ?_) #[true, true, true, true, false, false, true, true, true, false, false, false, false] rfl rfl (any_of HT_.out (by kernel_rfl)) (fun _ _ _ h => h) (Or.inl ⟨by rfl, ?_⟩) ?_ ?_
     rotate_left
     · intro w'
       go_simp
       with_reducible rfl
     rotate_left
     · simp only [Act.put, List.setIfInBounds_toArray, List.set_cons_zero, List.set_cons_succ, i64_w, i32_w]
       rfl
     refine pure_ (i := 9) (N := some 37) (v := ?_) (a' := ?_) #[true, true, true, true, false, false, true, true, true, true, false, false, false] rfl rfl (any_of HT_.out (by kernel_rfl)) (fun _ _ _ h => h) (Or.inl ⟨by rfl, ?_⟩) ?_ ?_
     rotate_left
     · intro w'
       go_simp
       with_reducible rfl
     rotate_left
     · simp only [Act.put, List.setIfInBounds_toArray, List.set_cons_zero, List.set_cons_succ, i64_w, i32_w]
       rfl
     refine take_ (i := 4) (N := some 32) (v := ?_) (a' := ?_) #[true, true, true, true, true, false, true, true, true, true, false, false, false] rfl rfl (take_ofW HT_.out HW_.out (by kernel_rfl)) (fun _ _ _ h => h) (Or.inl ⟨by rfl, ?_⟩) hHeld ?_ ?_
     rotate_left
     · rintro w' ⟨s0, s1⟩
       go_simp
       with_reducible rfl
     rotate_left
     · simp only [Act.put, List.setIfInBounds_toArray, List.set_cons_zero, List.set_cons_succ, i64_w, i32_w]
       rfl
     refine take_ (i := 10) (N := some 38) (v := ?_) (a' := ?_) #[true, true, true, true, true, false, true, true, true, true, true, false, false] rfl rfl (take_ofW HT_.out HW_.out (by kernel_rfl)) (fun _ _ _ h => h) (Or.inl ⟨by rfl, ?_⟩) hHeld ?_ ?_
     rotate_left
     · rintro w' ⟨s0, s1⟩
       go_simp
       with_reducible rfl
     rotate_left
     · simp only [Act.put, List.setIfInBounds_toArray, List.set_cons_zero, List.set_cons_succ, i64_w, i32_w]
       rfl
     refine one_ (i := 5) (N := some 33) #[true, true, true, true, true, true, true, true, true, true, true, false, false] rfl rfl (one_of HT_.out (by kernel_rfl)) (by decide) (fun K hK => ?_)
     refine goes_ Tryz.func28 (by kernel_rfl) rfl #[.slice A0 l0.length c0, .string (rdOf ByteArray.empty l1 x5_2)] (by rfl) rfl rfl gl ?_
     with_reducible refine (ranges_Allows.calls _ _ l0 (rdOf ByteArray.empty l1 x5_2) t314 _ ?side1 ?side2 ?side3 A14.out).mono ?_
     (case side1 => exact pC (Kd.C_below HR0.out HB.out))
     (case side2 => exact HC0.out)
     (case side3 => exact RTabs.below HTabs.out tb)
     rintro e w21 ⟨rfl, hb⟩
     refine ⟨_, rfl, ?_⟩
     replace HB := Aside0.mk (below_step tb hb)
     (try clear hb)
     (try clear hb2)
     (try clear hk)
     (try clear hi)
     refine hK.out _ _ ⟨((HB.out.cell (World.block_lt_of_cell? w _ hw313_0)).trans hw313_0), ((HB.out.cell (World.block_lt_of_cell? w _ hw315_0)).trans hw315_0)⟩ (fun hHeld => ?_)
     clear hK K
     refine norm_ (a' := ?_) ?_ ?_
     rotate_left
     · show Act.put _ (some 33) _ = _
       simp only [Act.put, List.setIfInBounds_toArray, List.set_cons_zero, List.set_cons_succ, i64_w, i32_w]
       rfl
     refine one_ (i := 11) (N := some 39) #[true, true, true, true, true, true, true, true, true, true, true, true, false] rfl rfl (one_of HT_.out (by kernel_rfl)) (by decide) (fun K hK => ?_)
     refine goes_ Tryz.func29 (by kernel_rfl) rfl #[.slice A0 l0.length c0, .string (rdOf ByteArray.empty l1 x5_2)] (by rfl) rfl rfl gl ?_
     with_reducible refine (tithebarnref14_Allows.calls k2 _ _ l0 (rdOf ByteArray.empty l1 x5_2) t316 _ ?side1 ?side2 A15.out).mono ?_
     (case side1 => exact pC (Kd.C_below HR0.out HB.out))
     (case side2 => exact HC0.out)
     rintro e w22 ⟨rfl, hb⟩
     refine ⟨_, rfl, ?_⟩
     replace HB := Aside0.mk (below_step tb hb)
     (try clear hb)
     (try clear hb2)
     (try clear hk)
     (try clear hi)
     refine hK.out _ _ ⟨((HB.out.cell (World.block_lt_of_cell? w _ hw313_0)).trans hw313_0), ((HB.out.cell (World.block_lt_of_cell? w _ hw315_0)).trans hw315_0)⟩ (fun hHeld => ?_)
     clear hK K
     refine norm_ (a' := ?_) ?_ ?_
     rotate_left
     · show Act.put _ (some 39) _ = _
       simp only [Act.put, List.setIfInBounds_toArray, List.set_cons_zero, List.set_cons_succ, i64_w, i32_w]
       rfl
     refine pure_ (i := 12) (N := some 40) (v := ?_) (a' := ?_) #[true, true, true, true, true, true, true, true, true, true, true, true, true] rfl rfl (any_of HT_.out (by kernel_rfl)) (fun _ _ _ h => h) (Or.inl ⟨by rfl, ?_⟩) ?_ ?_
     rotate_left
     · intro w'
       go_simp
       with_reducible rfl
     rotate_left
     · simp only [Act.put, List.setIfInBounds_toArray, List.set_cons_zero, List.set_cons_succ, i64_w, i32_w]
       rfl
     refine done_ (done_of HT_.out (by kernel_rfl)) ?_
     try go_wp2
     go_roundg k2
     case measure => have := HJ2.out; have := HK2.out; omega
     case rel => exact ⟨(wrap64 (x5_2 + 1)), rf, H', ⟨by have := HJ2.out; have := HK2.out; omega⟩, ⟨tb⟩⟩
end Go.Proofs.YtnbmdecehlljcaaGreatDoor.PRq
