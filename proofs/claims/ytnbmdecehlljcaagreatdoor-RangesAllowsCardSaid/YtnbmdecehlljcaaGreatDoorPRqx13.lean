-- Laid by a program of this session (wip/tools/pgiven.py) out of the seat's translation. Lean checks it.
import Derived.Test.YtnbmdecehlljcaaGreatDoorPRqx0
namespace Go.Proofs.YtnbmdecehlljcaaGreatDoor.PRq
open Go.RowKit Go.Proofs.YtnbmdecehlljcaaGreatDoorW.PrintWords Go.Proofs.YtnbmdecehlljcaaGreatDoorW.PrintLast Go.Proofs.YtnbmdecehlljcaaGreatDoorW.PrintMore
attribute [local go_sem] max2_int min2_int max_two min_two max_three min_three max_four min_four   -- for this text's walks alone
set_option linter.unusedVariables false
set_option linter.unusedSimpArgs false

attribute [local go_sem] isSome_setCellV
/-! ### ranges_Print: function 26 -/
mutual
def ranges_Print.l0 : Nat → List ByteArray → List ByteArray → List (List (S59)) → Int → Int → Option (ByteArray × Int)
 | 0, _, _, _, _, _ => none
 | k + 1, x4, x5, x19, x20, x21 => if x21 < x20 then (if 0 ≤ x21 then (if x21 < (x19.length : Int) then (ranges_Print.l1 k x4 x5 ([] : List ByteArray) x19 x20 x21 (rd_L4 x19 x21) ((rd_L4 x19 x21).length : Int) 0) else (none)) else (none)) else ((strings_Join.f x5 (⟨#[124]⟩ : ByteArray)).bind fun t188 => (some (t188, 0)))
def ranges_Print.l1 : Nat → List ByteArray → List ByteArray → List ByteArray → List (List (S59)) → Int → Int → List (S59) → Int → Int → Option (ByteArray × Int)
 | 0, _, _, _, _, _, _, _, _, _ => none
 | k + 1, x4, x5, x8, x19, x20, x21, x25, x26, x27 => if x27 < x26 then (if 0 ≤ x27 then (if x27 < (x25.length : Int) then (if 0 ≤ ((rd_T59 x25 x27).f0) then (if ((rd_T59 x25 x27).f0) < (x4.length : Int) then (if ((rd_T59 x25 x27).f0) = 0 then (if x8.length < 8796093022208 then (ranges_Print.l1 k x4 x5 (x8 ++ [rdOf ByteArray.empty x4 ((rd_T59 x25 x27).f0)]) x19 x20 x21 x25 x26 (wrap64 (x27 + 1))) else (none)) else (if (rdOf ByteArray.empty x4 ((rd_T59 x25 x27).f0)).size + ((rd_T59 x25 x27).f1).size ≤ 9223372036854775807 then (if x8.length < 8796093022208 then (ranges_Print.l1 k x4 x5 (x8 ++ [(rdOf ByteArray.empty x4 ((rd_T59 x25 x27).f0)) ++ ((rd_T59 x25 x27).f1)]) x19 x20 x21 x25 x26 (wrap64 (x27 + 1))) else (none)) else (none))) else (none)) else (none)) else (none)) else (none)) else ((strings_Join.f x8 (⟨#[44]⟩ : ByteArray)).bind fun t199 => (if x5.length < 8796093022208 then (ranges_Print.l0 k x4 (x5 ++ [t199]) x19 x20 (wrap64 (x21 + 1))) else (none)))
end
def ranges_Print.f (k : Nat) (l0 : List (List (S59))) : Option (ByteArray × Int) := (ranges_right.f l0).bind fun t184 => (if t184 = true then (if (l0.length : Int) = 0 then (some ((⟨#[42]⟩ : ByteArray), 0)) else ((strings_Fields.f (⟨#[42, 32, 61, 32, 33, 61, 32, 60, 32, 60, 61, 32, 62, 32, 62, 61, 32, 126]⟩ : ByteArray)).bind fun t185 => (ranges_Print.l0 k t185 ([] : List ByteArray) l0 (l0.length : Int) 0))) else (some ((⟨#[]⟩ : ByteArray), 2)))
theorem ranges_Print.mono_l : ∀ k, (∀ y0 y1 y2 y3 y4, LeO (ranges_Print.l0 k y0 y1 y2 y3 y4) (ranges_Print.l0 (k + 1) y0 y1 y2 y3 y4)) ∧ (∀ y0 y1 y2 y3 y4 y5 y6 y7 y8, LeO (ranges_Print.l1 k y0 y1 y2 y3 y4 y5 y6 y7 y8) (ranges_Print.l1 (k + 1) y0 y1 y2 y3 y4 y5 y6 y7 y8))
 | 0 => ⟨fun _ _ _ _ _ r h => by simp [ranges_Print.l0] at h, fun _ _ _ _ _ _ _ _ _ r h => by simp [ranges_Print.l1] at h⟩
 | k + 1 => by
  obtain ⟨ih0, ih1⟩ := ranges_Print.mono_l k
  refine ⟨?_, ?_⟩
  · intro y0 y1 y2 y3 y4
    unfold ranges_Print.l0
    repeat' first
    | (with_reducible exact ih0 _ _ _ _ _)
    | (with_reducible exact ih1 _ _ _ _ _ _ _ _ _)
    | (with_reducible exact LeO.refl _)
    | (with_reducible exact LeO.none _)
    | (with_reducible refine LeO.ite ?_ ?_)
    | (with_reducible refine LeO.bind ?_ (fun _ => ?_))
    | exact ih0 _ _ _ _ _
    | exact ih1 _ _ _ _ _ _ _ _ _
    | exact LeO.none _
    | refine LeO.ite ?_ ?_
    | refine LeO.bind ?_ (fun _ => ?_)
  · intro y0 y1 y2 y3 y4 y5 y6 y7 y8
    unfold ranges_Print.l1
    repeat' first
    | (with_reducible exact ih0 _ _ _ _ _)
    | (with_reducible exact ih1 _ _ _ _ _ _ _ _ _)
    | (with_reducible exact LeO.refl _)
    | (with_reducible exact LeO.none _)
    | (with_reducible refine LeO.ite ?_ ?_)
    | (with_reducible refine LeO.bind ?_ (fun _ => ?_))
    | exact ih0 _ _ _ _ _
    | exact ih1 _ _ _ _ _ _ _ _ _
    | exact LeO.none _
    | refine LeO.ite ?_ ?_
    | refine LeO.bind ?_ (fun _ => ?_)
theorem ranges_Print.mono : ∀ a0 k, LeO (ranges_Print.f k a0) (ranges_Print.f (k + 1) a0) := by
 intro a0 k
 obtain ⟨ih0, ih1⟩ := ranges_Print.mono_l k
 unfold ranges_Print.f
 repeat' first
  | (with_reducible exact ih0 _ _ _ _ _)
  | (with_reducible exact ih1 _ _ _ _ _ _ _ _ _)
  | (with_reducible exact LeO.refl _)
  | (with_reducible exact LeO.none _)
  | (with_reducible refine LeO.ite ?_ ?_)
  | (with_reducible refine LeO.bind ?_ (fun _ => ?_))
  | exact ih0 _ _ _ _ _
  | exact ih1 _ _ _ _ _ _ _ _ _
  | exact LeO.none _
  | refine LeO.ite ?_ ?_
  | refine LeO.bind ?_ (fun _ => ?_)
set_option maxHeartbeats 8000000 in
set_option maxRecDepth 100000 in
theorem ranges_Print.calls (k : Nat) (A0 : Option Addr) (c0 : Nat) (l0 : List (List (S59))) (r1 : ByteArray) (r2 : Int) (w : World) (hr0 : Kd.C (Kd.slice 59 k59) w A0 l0.length l0) (hc0 : l0.length ≤ c0) (hT : RTabs w) (h : ranges_Print.f k l0 = some (r1, r2)) :
 Calls Tryz.prog 26 #[.slice A0 l0.length c0] w fun e w' => e = .returned (.tuple #[.string r1, .int .i64 r2]) ∧ Below w.heap.size w w' := by
 have hu59 := Tryz.underlying59
 have HR0 := Aside0.mk hr0
 have HC0 := Aside0.mk hc0
 clear hr0 hc0
 have HB := Aside0.mk (Below.refl w.heap.size w)
 have HTabs := Aside0.mk hT
 clear hT
 have H : ((ranges_right.f l0).bind fun t184 => (if t184 = true then (if (l0.length : Int) = 0 then (some ((⟨#[42]⟩ : ByteArray), 0)) else ((strings_Fields.f (⟨#[42, 32, 61, 32, 33, 61, 32, 60, 32, 60, 61, 32, 62, 32, 62, 61, 32, 126]⟩ : ByteArray)).bind fun t185 => (ranges_Print.l0 k t185 ([] : List ByteArray) l0 (l0.length : Int) 0))) else (some ((⟨#[]⟩ : ByteArray), 2)))) = some (r1, r2) := h
 clear h
 obtain ⟨t184, A20, H⟩ := Option.bind_eq_some_iff.mp H
 have A2 := Aside0.mk A20
 clear A20
 by_cases c3 : t184 = true
 rotate_left
 · replace c3 := Bool.eq_false_iff.mpr c3
   subst c3
   rw [if_neg (show ¬ (false = true) by decide)] at H
   simp only [Option.some.injEq, Prod.mk.injEq] at H
   obtain ⟨rfl, rfl⟩ := H
   go_enter Tryz.func26, Tryz.ntmps26
   go_wp2_with (first | ((with_reducible refine gate_callee (f := 54) rfl ?_); refine goesL_ (some 13) rfl rfl Tryz.func54 (by kernel_rfl) rfl #[.slice A0 l0.length c0] rfl gl ?_; (with_reducible refine (ranges_right.calls _ _ l0 false _ ?side1 ?side2 ?side3 A2.out).mono ?_); (case side1 => exact pC HR0.out); (case side2 => exact HC0.out); (case side3 => exact RTabs.below HTabs.out tb); rintro e w37 ⟨rfl, hb⟩; refine ⟨_, rfl, ?_⟩; replace HB := Aside0.mk (below_step tb hb); (try clear hb)))
   go_ret2
   exact ⟨by first | rfl | (simp [errW_none, errW_some] <;> rfl) | (simp [*, errW_none, errW_some] <;> rfl), tb⟩

 subst c3
 rw [if_pos rfl] at H
 by_cases c4 : (l0.length : Int) = 0
 · rw [if_pos c4] at H
   have c4b0 : ((l0.length : Int) == 0) = true := beq_iff_eq.mpr c4
   have c4b1 : ((l0.length : Int) != 0) = false := bne_eq_false_iff_eq.mpr c4
   clear c4
   simp only [Option.some.injEq, Prod.mk.injEq] at H
   obtain ⟨rfl, rfl⟩ := H
   go_enter Tryz.func26, Tryz.ntmps26
   go_wp2_with (first | ((with_reducible refine gate_callee (f := 54) rfl ?_); refine goesL_ (some 13) rfl rfl Tryz.func54 (by kernel_rfl) rfl #[.slice A0 l0.length c0] rfl gl ?_; (with_reducible refine (ranges_right.calls _ _ l0 true _ ?side1 ?side2 ?side3 A2.out).mono ?_); (case side1 => exact pC HR0.out); (case side2 => exact HC0.out); (case side3 => exact RTabs.below HTabs.out tb); rintro e w5 ⟨rfl, hb⟩; refine ⟨_, rfl, ?_⟩; replace HB := Aside0.mk (below_step tb hb); (try clear hb)))
   go_ret2
   exact ⟨by first | rfl | (simp [errW_none, errW_some] <;> rfl) | (simp [*, errW_none, errW_some] <;> rfl), tb⟩
 rw [if_neg c4] at H
 have c4b0 : ((l0.length : Int) == 0) = false := beq_eq_false_iff_ne.mpr c4
 have c4b1 : ((l0.length : Int) != 0) = true := bne_iff_ne.mpr c4
 have c4b2 : ¬ (l0 = []) := fun h_ => c4 (by rw [h_]; rfl)
 obtain ⟨t185, A60, H⟩ := Option.bind_eq_some_iff.mp H
 have A6 := Aside0.mk A60
 clear A60
 have H' := Aside0.mk H
 clear H
 go_enter Tryz.func26, Tryz.ntmps26
 go_wp2_with (first | ((with_reducible refine gate_callee (f := 54) rfl ?_); refine goesL_ (some 13) rfl rfl Tryz.func54 (by kernel_rfl) rfl #[.slice A0 l0.length c0] rfl gl ?_; (with_reducible refine (ranges_right.calls _ _ l0 true _ ?side1 ?side2 ?side3 A2.out).mono ?_); (case side1 => exact pC HR0.out); (case side2 => exact HC0.out); (case side3 => exact RTabs.below HTabs.out tb); rintro e w7 ⟨rfl, hb⟩; refine ⟨_, rfl, ?_⟩; replace HB := Aside0.mk (below_step tb hb); (try clear hb)) | ((with_reducible refine gate_callee (f := 55) rfl ?_); refine goesL_ (some 18) rfl rfl Tryz.func55 (by kernel_rfl) rfl #[.string (⟨#[42, 32, 61, 32, 33, 61, 32, 60, 32, 60, 61, 32, 62, 32, 62, 61, 32, 126]⟩ : ByteArray)] rfl gl ?_; (with_reducible refine (strings_Fields.calls (⟨#[42, 32, 61, 32, 33, 61, 32, 60, 32, 60, 61, 32, 62, 32, 62, 61, 32, 126]⟩ : ByteArray) t185 _ ?side1 A6.out).mono ?_); (case side1 => exact RTabs.below HTabs.out tb); rintro e w8 ⟨v186, rfl, ho0, hb⟩; refine ⟨_, rfl, ?_⟩; have HO187 := Aside0.mk (Kd.R_lower ho0 (below_size tb)); replace HB := Aside0.mk (below_step tb hb); (try clear hb); (try clear ho0)))
 go_loopg [5, 21] k (fun kq v5 v21 w' => ∃ (x5_1 : List ByteArray) (x21_1 : Int), v21 = .int .i64 x21_1 ∧ Aside0 (ranges_Print.l0 kq t185 x5_1 l0 (l0.length : Int) x21_1 = some (r1, r2)) ∧ Aside0 (kq ≤ k) ∧ Aside0 (Kd.R Kd.string 9 w' w.heap.size (fun k_ => some k_ ≠ (v5 : Value).ownBlock) v186 t185) ∧ Aside0 (Kd.R Kd.string 9 w' w.heap.size (fun k_ => some k_ ≠ (v186 : Value).ownBlock) v5 x5_1) ∧ Aside0 (Below w.heap.size w w'))
 case atStart => exact ⟨(([] : List ByteArray)), (0), rf, H', ⟨Nat.le_refl _⟩, ⟨by (with_reducible repeat (first | apply Kd.R_alloc | apply Kd.R_drewN | apply Kd.R_drew)); exact Kd.R_mono HO187.out (fun _ hk => (by simp [Value.ownBlock]))⟩, ⟨by first | exact Kd.R_nil _ _ _ _ _ | exact Kd.N_nil _ _ _ _ _ | exact Kd.V_nil _ _ _ _ _ | exact Kd.Q_nil _ _ _ _ _ | exact Kd.S_nil _ _ _ _ _⟩, ⟨tb⟩⟩
 case round =>
  clear H'
  try clear c2
  try clear p2
  try clear c3
  try clear c4
  try clear c4b0
  try clear c4b1
  try clear c4b2
  try clear c5
  obtain ⟨x5_1, x21_1, rfl, HA, HK1, HO_4, HO_5, HB⟩ := hrel
  cases gk with
  | zero => exact absurd HA.out (by simp [ranges_Print.l0])
  | succ k1 =>
   have H := HA.out
   clear HA
   simp only [ranges_Print.l0] at H
   by_cases c9 : x21_1 < (l0.length : Int)
   rotate_left
   · rw [if_neg c9] at H
     have c9b0 : decide (x21_1 < (l0.length : Int)) = false := decide_eq_false c9
     clear c9
     obtain ⟨t188, A340, H⟩ := Option.bind_eq_some_iff.mp H
     have A34 := Aside0.mk A340
     clear A340
     simp only [Option.some.injEq, Prod.mk.injEq] at H
     obtain ⟨rfl, rfl⟩ := H
     obtain ⟨Ao35, co35, eo35⟩ := Kd.R_slice HO_5.out
     subst eo35
     go_wp2_with (first | ((with_reducible refine gate_callee (f := 41) rfl ?_); refine goesL_ (some 55) rfl rfl Tryz.func41 (by kernel_rfl) rfl #[.slice Ao35 x5_1.length co35, .string (⟨#[124]⟩ : ByteArray)] rfl gl ?_; (with_reducible refine (strings_Join.calls _ _ x5_1 (⟨#[124]⟩ : ByteArray) t188 _ ?side1 ?side2 A34.out).mono ?_); (case side1 => exact pC (Kd.R_reads' HO_5.out).2.2); (case side2 => exact (Kd.R_reads' HO_5.out).2.1); rintro e w36 ⟨rfl, hb⟩; refine ⟨_, rfl, ?_⟩; replace HO_4 := bR HO_4 hb; replace HO_5 := bR HO_5 hb; replace HB := Aside0.mk (below_step tb hb); (try clear hb)))
     go_ret2
     exact ⟨by first | rfl | (simp [errW_none, errW_some] <;> rfl) | (simp [*, errW_none, errW_some] <;> rfl), tb⟩
   rw [if_pos c9] at H
   have c9b0 : decide (x21_1 < (l0.length : Int)) = true := decide_eq_true c9
   clear c9
   by_cases c10 : 0 ≤ x21_1
   rotate_left
   · rw [if_neg c10] at H
     exact absurd H (by simp)
   rw [if_pos c10] at H
   have c10b0 : decide (0 ≤ x21_1) = true := decide_eq_true c10
   clear c10
   by_cases c11 : x21_1 < (l0.length : Int)
   rotate_left
   · rw [if_neg c11] at H
     exact absurd H (by simp)
   rw [if_pos c11] at H
   have c11b0 : decide (x21_1 < (l0.length : Int)) = true := decide_eq_true c11
   clear c11
   have H' := Aside0.mk H
   clear H
   have p189 : 0 ≤ (x21_1 : Int) := da
   have q189 : x21_1 < (l0.length : Int) := da
   obtain ⟨ad189, A189_0, c189_0, e189, hx189_0, hl189_0, hi189_0⟩ := at_L4 HR0.out x21_1 p189 q189
   cases e189
   replace hx189_0 := (HB.out.cell (World.block_lt_of_cell? w _ hx189_0)).trans hx189_0
   have HR189_0 := Aside0.mk hi189_0
   have HC189_0 := Aside0.mk hl189_0
   clear hi189_0 hl189_0
   replace p189 := eq_true p189
   replace q189 := eq_true q189
   go_wp2
   go_loopg [8, 27] k1 (fun kq v8 v27 w' => ∃ (x8_2 : List ByteArray) (x27_2 : Int), v27 = .int .i64 x27_2 ∧ Aside0 (ranges_Print.l1 kq t185 x5_1 x8_2 l0 (l0.length : Int) x21_1 (rd_L4 l0 x21_1) ((rd_L4 l0 x21_1).length : Int) x27_2 = some (r1, r2)) ∧ Aside0 (kq ≤ k1) ∧ Aside0 (Kd.R Kd.string 9 w' w.heap.size (fun k_ => some k_ ≠ (u5 : Value).ownBlock ∧ some k_ ≠ (v8 : Value).ownBlock) v186 t185) ∧ Aside0 (Kd.R Kd.string 9 w' w.heap.size (fun k_ => some k_ ≠ (v186 : Value).ownBlock ∧ some k_ ≠ (v8 : Value).ownBlock) u5 x5_1) ∧ Aside0 (Kd.R Kd.string 9 w' w.heap.size (fun k_ => some k_ ≠ (v186 : Value).ownBlock ∧ some k_ ≠ (u5 : Value).ownBlock) v8 x8_2) ∧ Aside0 (Below w.heap.size w w'))
   case atStart => exact ⟨(([] : List ByteArray)), (0), rf, H', ⟨Nat.le_refl _⟩, ⟨by (with_reducible repeat (first | apply Kd.R_alloc | apply Kd.R_drewN | apply Kd.R_drew)); exact Kd.R_mono HO_4.out (fun _ hk => ⟨hk, (by simp [Value.ownBlock])⟩)⟩, ⟨by (with_reducible repeat (first | apply Kd.R_alloc | apply Kd.R_drewN | apply Kd.R_drew)); exact Kd.R_mono HO_5.out (fun _ hk => ⟨hk, (by simp [Value.ownBlock])⟩)⟩, ⟨by first | exact Kd.R_nil _ _ _ _ _ | exact Kd.N_nil _ _ _ _ _ | exact Kd.V_nil _ _ _ _ _ | exact Kd.Q_nil _ _ _ _ _ | exact Kd.S_nil _ _ _ _ _⟩, ⟨tb⟩⟩
   case round =>
    clear H'
    try clear c1
    try clear p1
    try clear q1
    try clear hx1
    try clear c2
    try clear p2
    try clear c3
    try clear c4
    try clear c4b0
    try clear c4b1
    try clear c4b2
    try clear c5
    try clear c9
    try clear c9b0
    try clear c10
    try clear c10b0
    try clear c11
    try clear c11b0
    try clear hx189_0
    try clear p189
    try clear p2
    try clear q189
    obtain ⟨x8_2, x27_2, rfl, HA, HK2, HO_4, HO_5, HO_8, HB⟩ := hrel
    cases gk with
    | zero => exact absurd HA.out (by simp [ranges_Print.l1])
    | succ k2 =>
     have H := HA.out
     clear HA
     simp only [ranges_Print.l1] at H
     by_cases c12 : x27_2 < ((rd_L4 l0 x21_1).length : Int)
     rotate_left
     · rw [if_neg c12] at H
       have c12b0 : decide (x27_2 < ((rd_L4 l0 x21_1).length : Int)) = false := decide_eq_false c12
       clear c12
       obtain ⟨t199, A290, H⟩ := Option.bind_eq_some_iff.mp H
       have A29 := Aside0.mk A290
       clear A290
       by_cases c30 : x5_1.length < 8796093022208
       rotate_left
       · rw [if_neg c30] at H
         exact absurd H (by simp)
       rw [if_pos c30] at H
       have LMc30 := Aside0.mk c30
       clear c30
       obtain ⟨y200, hy200⟩ : ∃ y_ : List ByteArray, y_ = (x5_1 ++ [t199]) := ⟨_, rfl⟩
       replace H : (ranges_Print.l0 k2 t185 y200 l0 (l0.length : Int) (wrap64 (x21_1 + 1))) = some (r1, r2) := by subst hy200; first | (with_reducible exact H) | exact H
       have Ny200 := Aside0.mk hy200
       clear hy200
       have H' := Aside0.mk H
       clear H
       obtain ⟨Ao31, co31, eo31⟩ := Kd.R_slice HO_8.out
       subst eo31
       go_wp2_with (first | ((with_reducible refine gate_callee (f := 41) rfl ?_); refine goesL_ (some 50) rfl rfl Tryz.func41 (by kernel_rfl) rfl #[.slice Ao31 x8_2.length co31, .string (⟨#[44]⟩ : ByteArray)] rfl gl ?_; (with_reducible refine (strings_Join.calls _ _ x8_2 (⟨#[44]⟩ : ByteArray) t199 _ ?side1 ?side2 A29.out).mono ?_); (case side1 => exact pC (Kd.R_reads' HO_8.out).2.2); (case side2 => exact (Kd.R_reads' HO_8.out).2.1); rintro e w32 ⟨rfl, hb⟩; refine ⟨_, rfl, ?_⟩; replace HO_4 := bR HO_4 hb; replace HO_5 := bR HO_5 hb; replace HO_8 := bR HO_8 hb; replace HB := Aside0.mk (below_step tb hb); (try clear hb)) | ((with_reducible refine gate_builtin (b := .append) (xs := #[.tmp 48, .tmp 51]) rfl ?_); at_builtin; refine Kd.R_append Kd.string (w0 := w) w.heap.size rfl (.tmp 48) (.tmp 51) 33 9 (.string ⟨#[]⟩) 16 rfl Tryz.underlying33 info9 rfl (by decide) (by omega) u5 x5_1 t199 [.string t199] (fun k_ => some k_ ≠ (v186 : Value).ownBlock ∧ some k_ ≠ (.slice Ao31 x8_2.length co31 : Value).ownBlock) (fun _ => False) rfl rfl ?aP (fun _ hk => hk.elim) ?aF ?aO ?aB ?aS ?aL ?_; (case aP => exact rfl); (case aB => exact tb); (case aF => exact (fun k_ hk => ⟨Kd.fresh' (Kd.R_lt (pR HO_4.out)) k_ hk, Kd.fresh' (Kd.R_lt (pR HO_8.out)) k_ hk⟩)); (case aO => exact (pR HO_5.out)); (case aS => exact (below_size tb)); (case aL => have := LMc30.out; omega); intro v201 w33 ho hb hg hat; rw [← Ny200.out] at ho; replace HO_4 := Aside0.mk (Kd.R_after (ok := (fun k_ => some k_ ≠ (.slice Ao31 x8_2.length co31 : Value).ownBlock)) (by (with_reducible repeat (first | apply Kd.R_alloc | apply Kd.R_drewN | apply Kd.R_drew)); exact Kd.R_mono HO_4.out (fun _ hk => ⟨hk.2, hk.1⟩)) hg hat); replace HO_8 := Aside0.mk (Kd.R_after (ok := (fun k_ => some k_ ≠ (v186 : Value).ownBlock)) (pR HO_8.out) hg hat); replace HB := Aside0.mk (hb); have HO202 := Aside0.mk (ho); clear HO_5; clear ho hb hg hat))
       go_roundg k2
       case measure => have := HK1.out; have := HK2.out; omega
       case rel => exact ⟨(y200), (wrap64 (x21_1 + 1)), rf, H', ⟨by have := HK1.out; have := HK2.out; omega⟩, ⟨by (with_reducible repeat (first | apply Kd.R_alloc | apply Kd.R_drewN | apply Kd.R_drew)); exact Kd.R_mono HO_4.out (fun _ hk => hk.2)⟩, ⟨by (with_reducible repeat (first | apply Kd.R_alloc | apply Kd.R_drewN | apply Kd.R_drew)); exact Kd.R_mono HO202.out (fun _ hk => hk.1)⟩, ⟨tb⟩⟩
     rw [if_pos c12] at H
     have c12b0 : decide (x27_2 < ((rd_L4 l0 x21_1).length : Int)) = true := decide_eq_true c12
     clear c12
     by_cases c13 : 0 ≤ x27_2
     rotate_left
     · rw [if_neg c13] at H
       exact absurd H (by simp)
     rw [if_pos c13] at H
     have c13b0 : decide (0 ≤ x27_2) = true := decide_eq_true c13
     clear c13
     by_cases c14 : x27_2 < ((rd_L4 l0 x21_1).length : Int)
     rotate_left
     · rw [if_neg c14] at H
       exact absurd H (by simp)
     rw [if_pos c14] at H
     have c14b0 : decide (x27_2 < ((rd_L4 l0 x21_1).length : Int)) = true := decide_eq_true c14
     clear c14
     by_cases c15 : 0 ≤ ((rd_T59 (rd_L4 l0 x21_1) x27_2).f0)
     rotate_left
     · rw [if_neg c15] at H
       exact absurd H (by simp)
     rw [if_pos c15] at H
     have c15b0 : decide (0 ≤ ((rd_T59 (rd_L4 l0 x21_1) x27_2).f0)) = true := decide_eq_true c15
     clear c15
     by_cases c16 : ((rd_T59 (rd_L4 l0 x21_1) x27_2).f0) < (t185.length : Int)
     rotate_left
     · rw [if_neg c16] at H
       exact absurd H (by simp)
     rw [if_pos c16] at H
     have c16b0 : decide (((rd_T59 (rd_L4 l0 x21_1) x27_2).f0) < (t185.length : Int)) = true := decide_eq_true c16
     clear c16
     by_cases c17 : ((rd_T59 (rd_L4 l0 x21_1) x27_2).f0) = 0
     · rw [if_pos c17] at H
       have c17b0 : (((rd_T59 (rd_L4 l0 x21_1) x27_2).f0) == 0) = true := beq_iff_eq.mpr c17
       have c17b1 : (((rd_T59 (rd_L4 l0 x21_1) x27_2).f0) != 0) = false := bne_eq_false_iff_eq.mpr c17
       clear c17
       by_cases c18 : x8_2.length < 8796093022208
       rotate_left
       · rw [if_neg c18] at H
         exact absurd H (by simp)
       rw [if_pos c18] at H
       have LMc18 := Aside0.mk c18
       clear c18
       obtain ⟨y193, hy193⟩ : ∃ y_ : List ByteArray, y_ = (x8_2 ++ [rdOf ByteArray.empty t185 ((rd_T59 (rd_L4 l0 x21_1) x27_2).f0)]) := ⟨_, rfl⟩
       replace H : (ranges_Print.l1 k2 t185 x5_1 y193 l0 (l0.length : Int) x21_1 (rd_L4 l0 x21_1) ((rd_L4 l0 x21_1).length : Int) (wrap64 (x27_2 + 1))) = some (r1, r2) := by subst hy193; first | (with_reducible exact H) | exact H
       have Ny193 := Aside0.mk hy193
       clear hy193
       have H' := Aside0.mk H
       clear H
       have p190 : 0 ≤ (x27_2 : Int) := da
       have q190 : x27_2 < ((rd_L4 l0 x21_1).length : Int) := da
       obtain ⟨ad190, e190, hx190_0, hx190_1⟩ := at_T59 HR189_0.out x27_2 p190 q190
       cases e190
       replace hx190_0 := (HB.out.cell (World.block_lt_of_cell? w _ hx190_0)).trans hx190_0
       replace hx190_1 := (HB.out.cell (World.block_lt_of_cell? w _ hx190_1)).trans hx190_1
       replace p190 := eq_true p190
       replace q190 := eq_true q190
       go_wp2_with (first | ((with_reducible refine gate_dst (N := 10) rfl ?_); refine box_event ?hg (N := 10) ?hd (cs := #[.int .u8 0, .string (⟨#[]⟩ : ByteArray)]) (t := 59) ?hr ?_; (case hd => rfl); (case hg => rfl); (case hr => first | (go_simp; done) | (go_simp; rfl)); intro gb191 hg w19 hbox hb; replace HO_4 := bR HO_4 hb; replace HO_5 := bR HO_5 hb; replace HO_8 := bR HO_8 hb; have BK191 := Aside0.mk (hbox); have GW191 := Aside0.mk ((by rw [hg]; exact (below_size tb) : w.heap.size ≤ gb191)); have GE191 := Aside0.mk ((by rw [hg]; exact (below_size tb) : w.heap.size ≤ gb191)); replace HB := Aside0.mk (below_step tb hb); clear hb hbox hg; have hcz20_0 : w19.cell? ⟨gb191, 0, none⟩ = some (.int .u8 0) := (blk_cell BK191.out 0).trans rfl; have hcz20_1 : w19.cell? ⟨gb191, 1, none⟩ = some (.string (⟨#[]⟩ : ByteArray)) := (blk_cell BK191.out 1).trans rfl; have hfz20_0 := blk_frozen BK191.out 0; have hfz20_1 := blk_frozen BK191.out 1; obtain ⟨Ao21, co21, eo21⟩ := Kd.R_slice HO_4.out; subst eo21; have p192 : 0 ≤ (((rd_T59 (rd_L4 l0 x21_1) x27_2).f0) : Int) := da; have q192 : ((rd_T59 (rd_L4 l0 x21_1) x27_2).f0) < (t185.length : Int) := da; obtain ⟨ad192, e192, hx192_0⟩ := Kd.at_string (Kd.R_reads' HO_4.out).2.2 ((rd_T59 (rd_L4 l0 x21_1) x27_2).f0) p192 q192; cases e192; have hn192_0 : ad192.block ≠ gb191 := Kd.own_blk (Kd.R_ne HO_4.out BK191.out (by decide)); have hn192_1 : ad192.block ≠ gb191 := Kd.own_blk (Kd.R_ne HO_4.out BK191.out (by decide)); replace hx192_0 := (cell_far (p := ⟨gb191, 0, none⟩) (by first | (rw [add_block]; exact hn192_0) | (show (Addr.add _ _).block ≠ _; rw [add_block]; exact hn192_0) | exact hn192_0) (.int .u8 ((rd_T59 (rd_L4 l0 x21_1) x27_2).f0))).trans hx192_0; replace hx192_0 := (cell_far (p := ⟨gb191, 1, none⟩) (by first | (rw [add_block]; exact hn192_1) | (show (Addr.add _ _).block ≠ _; rw [add_block]; exact hn192_1) | exact hn192_1) (.string ((rd_T59 (rd_L4 l0 x21_1) x27_2).f1))).trans hx192_0; clear hn192_0; clear hn192_1; replace p192 := eq_true p192; replace q192 := eq_true q192) | ((with_reducible refine gate_builtin (b := .append) (xs := #[.tmp 43, .tmp 45]) rfl ?_); at_builtin; refine Kd.R_append Kd.string (w0 := w) w.heap.size rfl (.tmp 43) (.tmp 45) 33 9 (.string ⟨#[]⟩) 16 rfl Tryz.underlying33 info9 rfl (by decide) (by omega) u8 x8_2 (rdOf ByteArray.empty t185 ((rd_T59 (rd_L4 l0 x21_1) x27_2).f0)) [.string (rdOf ByteArray.empty t185 ((rd_T59 (rd_L4 l0 x21_1) x27_2).f0))] (fun k_ => some k_ ≠ (.slice (some ad192) t185.length co21 : Value).ownBlock ∧ some k_ ≠ (u5 : Value).ownBlock) (fun _ => False) rfl (by first | (go_simp; done) | (go_simp; rfl)) ?aP (fun _ hk => hk.elim) ?aF ?aO ?aB ?aS ?aL ?_; (case aP => exact rfl); (case aB => exact tb); (case aF => exact (fun k_ hk => ⟨Kd.fresh' (Kd.R_lt (by (with_reducible repeat (first | apply Kd.R_alloc | apply Kd.R_drewN | apply Kd.R_drew)); exact (Kd.R_mono (Kd.R_far (p := ⟨gb191, 1, none⟩) (Kd.R_far (p := ⟨gb191, 0, none⟩) (Kd.R_types HO_4.out BK191.out (by decide)) (fun _ hk => hk.2) (.int .u8 ((rd_T59 (rd_L4 l0 x21_1) x27_2).f0))) (fun _ hk => hk.2) (.string ((rd_T59 (rd_L4 l0 x21_1) x27_2).f1))) (fun _ h_ => h_.1)))) k_ hk, Kd.fresh' (Kd.R_lt (by (with_reducible repeat (first | apply Kd.R_alloc | apply Kd.R_drewN | apply Kd.R_drew)); exact (Kd.R_mono (Kd.R_far (p := ⟨gb191, 1, none⟩) (Kd.R_far (p := ⟨gb191, 0, none⟩) (Kd.R_types HO_5.out BK191.out (by decide)) (fun _ hk => hk.2) (.int .u8 ((rd_T59 (rd_L4 l0 x21_1) x27_2).f0))) (fun _ hk => hk.2) (.string ((rd_T59 (rd_L4 l0 x21_1) x27_2).f1))) (fun _ h_ => h_.1)))) k_ hk⟩)); (case aO => exact (by (with_reducible repeat (first | apply Kd.R_alloc | apply Kd.R_drewN | apply Kd.R_drew)); exact Kd.R_mono (Kd.R_far (p := ⟨gb191, 1, none⟩) (Kd.R_far (p := ⟨gb191, 0, none⟩) (Kd.R_types HO_8.out BK191.out (by decide)) (fun _ hk => hk.2) (.int .u8 ((rd_T59 (rd_L4 l0 x21_1) x27_2).f0))) (fun _ hk => hk.2) (.string ((rd_T59 (rd_L4 l0 x21_1) x27_2).f1))) (fun _ hk => ⟨hk.1.1, hk.1.2⟩))); (case aS => exact (below_size tb)); (case aL => have := LMc18.out; omega); intro v194 w22 ho hb hg hat; rw [← Ny193.out] at ho; replace HO_4 := Aside0.mk (Kd.R_after (ok := (fun k_ => some k_ ≠ (u5 : Value).ownBlock)) (by (with_reducible repeat (first | apply Kd.R_alloc | apply Kd.R_drewN | apply Kd.R_drew)); exact Kd.R_mono (Kd.R_far (p := ⟨gb191, 1, none⟩) (Kd.R_far (p := ⟨gb191, 0, none⟩) (Kd.R_types HO_4.out BK191.out (by decide)) (fun _ hk => hk.2) (.int .u8 ((rd_T59 (rd_L4 l0 x21_1) x27_2).f0))) (fun _ hk => hk.2) (.string ((rd_T59 (rd_L4 l0 x21_1) x27_2).f1))) (fun _ hk => ⟨hk.1.1, hk.1.2⟩)) hg hat); replace HO_5 := Aside0.mk (Kd.R_after (ok := (fun k_ => some k_ ≠ (.slice (some ad192) t185.length co21 : Value).ownBlock)) (by (with_reducible repeat (first | apply Kd.R_alloc | apply Kd.R_drewN | apply Kd.R_drew)); exact Kd.R_mono (Kd.R_far (p := ⟨gb191, 1, none⟩) (Kd.R_far (p := ⟨gb191, 0, none⟩) (Kd.R_types HO_5.out BK191.out (by decide)) (fun _ hk => hk.2) (.int .u8 ((rd_T59 (rd_L4 l0 x21_1) x27_2).f0))) (fun _ hk => hk.2) (.string ((rd_T59 (rd_L4 l0 x21_1) x27_2).f1))) (fun _ hk => ⟨hk.1.1, hk.1.2⟩)) hg hat); replace BK191 := Aside0.mk (blk_grown (g := gb191) (o := .cells #[.int .u8 ((rd_T59 (rd_L4 l0 x21_1) x27_2).f0), .string ((rd_T59 (rd_L4 l0 x21_1) x27_2).f1)] 59 (0, 0)) (by (with_reducible repeat (first | refine blk_drewN ?_ _ | refine blk_drew ?_ | refine blk_alloc ?_ _)); refine blk_put (cs := #[.int .u8 ((rd_T59 (rd_L4 l0 x21_1) x27_2).f0), .string (⟨#[]⟩ : ByteArray)]) ?_ 1 _ rfl; (with_reducible repeat (first | refine blk_drewN ?_ _ | refine blk_drew ?_ | refine blk_alloc ?_ _)); refine blk_put (cs := #[.int .u8 0, .string (⟨#[]⟩ : ByteArray)]) ?_ 0 _ rfl; (with_reducible repeat (first | refine blk_drewN ?_ _ | refine blk_drew ?_ | refine blk_alloc ?_ _)); exact BK191.out) hg (Kd.R_ne HO_8.out BK191.out (by decide))); replace HB := Aside0.mk (hb); have HO195 := Aside0.mk (ho); clear HO_8; clear ho hb hg hat))
       go_roundg k2
       case measure => have := HK1.out; have := HK2.out; omega
       case rel => exact ⟨(y193), (wrap64 (x27_2 + 1)), rf, H', ⟨by have := HK1.out; have := HK2.out; omega⟩, ⟨pR HO_4.out⟩, ⟨pR HO_5.out⟩, ⟨pR HO195.out⟩, ⟨tb⟩⟩
     rw [if_neg c17] at H
     have c17b0 : (((rd_T59 (rd_L4 l0 x21_1) x27_2).f0) == 0) = false := beq_eq_false_iff_ne.mpr c17
     have c17b1 : (((rd_T59 (rd_L4 l0 x21_1) x27_2).f0) != 0) = true := bne_iff_ne.mpr c17
     by_cases c23 : (rdOf ByteArray.empty t185 ((rd_T59 (rd_L4 l0 x21_1) x27_2).f0)).size + ((rd_T59 (rd_L4 l0 x21_1) x27_2).f1).size ≤ 9223372036854775807
     rotate_left
     · rw [if_neg c23] at H
       exact absurd H (by simp)
     rw [if_pos c23] at H
     have c23b0 := eq_true c23
     have c23b1 : decide ((rdOf ByteArray.empty t185 ((rd_T59 (rd_L4 l0 x21_1) x27_2).f0)).size + ((rd_T59 (rd_L4 l0 x21_1) x27_2).f1).size ≤ 9223372036854775807) = true := decide_eq_true c23
     try have c23b2 : (9223372036854775807 < (rdOf ByteArray.empty t185 ((rd_T59 (rd_L4 l0 x21_1) x27_2).f0)).size + ((rd_T59 (rd_L4 l0 x21_1) x27_2).f1).size) = False := eq_false (Nat.not_lt.2 c23)
     by_cases c24 : x8_2.length < 8796093022208
     rotate_left
     · rw [if_neg c24] at H
       exact absurd H (by simp)
     rw [if_pos c24] at H
     have LMc24 := Aside0.mk c24
     clear c24
     obtain ⟨y196, hy196⟩ : ∃ y_ : List ByteArray, y_ = (x8_2 ++ [(rdOf ByteArray.empty t185 ((rd_T59 (rd_L4 l0 x21_1) x27_2).f0)) ++ ((rd_T59 (rd_L4 l0 x21_1) x27_2).f1)]) := ⟨_, rfl⟩
     replace H : (ranges_Print.l1 k2 t185 x5_1 y196 l0 (l0.length : Int) x21_1 (rd_L4 l0 x21_1) ((rd_L4 l0 x21_1).length : Int) (wrap64 (x27_2 + 1))) = some (r1, r2) := by subst hy196; first | (with_reducible exact H) | exact H
     have Ny196 := Aside0.mk hy196
     clear hy196
     have H' := Aside0.mk H
     clear H
     have p190 : 0 ≤ (x27_2 : Int) := da
     have q190 : x27_2 < ((rd_L4 l0 x21_1).length : Int) := da
     obtain ⟨ad190, e190, hx190_0, hx190_1⟩ := at_T59 HR189_0.out x27_2 p190 q190
     cases e190
     replace hx190_0 := (HB.out.cell (World.block_lt_of_cell? w _ hx190_0)).trans hx190_0
     replace hx190_1 := (HB.out.cell (World.block_lt_of_cell? w _ hx190_1)).trans hx190_1
     replace p190 := eq_true p190
     replace q190 := eq_true q190
     go_wp2_with (first | ((with_reducible refine gate_dst (N := 10) rfl ?_); refine box_event ?hg (N := 10) ?hd (cs := #[.int .u8 0, .string (⟨#[]⟩ : ByteArray)]) (t := 59) ?hr ?_; (case hd => rfl); (case hg => rfl); (case hr => first | (go_simp; done) | (go_simp; rfl)); intro gb191 hg w25 hbox hb; replace HO_4 := bR HO_4 hb; replace HO_5 := bR HO_5 hb; replace HO_8 := bR HO_8 hb; have BK191 := Aside0.mk (hbox); have GW191 := Aside0.mk ((by rw [hg]; exact (below_size tb) : w.heap.size ≤ gb191)); have GE191 := Aside0.mk ((by rw [hg]; exact (below_size tb) : w.heap.size ≤ gb191)); replace HB := Aside0.mk (below_step tb hb); clear hb hbox hg; have hcz26_0 : w25.cell? ⟨gb191, 0, none⟩ = some (.int .u8 0) := (blk_cell BK191.out 0).trans rfl; have hcz26_1 : w25.cell? ⟨gb191, 1, none⟩ = some (.string (⟨#[]⟩ : ByteArray)) := (blk_cell BK191.out 1).trans rfl; have hfz26_0 := blk_frozen BK191.out 0; have hfz26_1 := blk_frozen BK191.out 1; obtain ⟨Ao27, co27, eo27⟩ := Kd.R_slice HO_4.out; subst eo27; have p192 : 0 ≤ (((rd_T59 (rd_L4 l0 x21_1) x27_2).f0) : Int) := da; have q192 : ((rd_T59 (rd_L4 l0 x21_1) x27_2).f0) < (t185.length : Int) := da; obtain ⟨ad192, e192, hx192_0⟩ := Kd.at_string (Kd.R_reads' HO_4.out).2.2 ((rd_T59 (rd_L4 l0 x21_1) x27_2).f0) p192 q192; cases e192; have hn192_0 : ad192.block ≠ gb191 := Kd.own_blk (Kd.R_ne HO_4.out BK191.out (by decide)); have hn192_1 : ad192.block ≠ gb191 := Kd.own_blk (Kd.R_ne HO_4.out BK191.out (by decide)); replace hx192_0 := (cell_far (p := ⟨gb191, 0, none⟩) (by first | (rw [add_block]; exact hn192_0) | (show (Addr.add _ _).block ≠ _; rw [add_block]; exact hn192_0) | exact hn192_0) (.int .u8 ((rd_T59 (rd_L4 l0 x21_1) x27_2).f0))).trans hx192_0; replace hx192_0 := (cell_far (p := ⟨gb191, 1, none⟩) (by first | (rw [add_block]; exact hn192_1) | (show (Addr.add _ _).block ≠ _; rw [add_block]; exact hn192_1) | exact hn192_1) (.string ((rd_T59 (rd_L4 l0 x21_1) x27_2).f1))).trans hx192_0; clear hn192_0; clear hn192_1; replace p192 := eq_true p192; replace q192 := eq_true q192) | ((with_reducible refine gate_builtin (b := .append) (xs := #[.tmp 43, .tmp 45]) rfl ?_); at_builtin; refine Kd.R_append Kd.string (w0 := w) w.heap.size rfl (.tmp 43) (.tmp 45) 33 9 (.string ⟨#[]⟩) 16 rfl Tryz.underlying33 info9 rfl (by decide) (by omega) u8 x8_2 ((rdOf ByteArray.empty t185 ((rd_T59 (rd_L4 l0 x21_1) x27_2).f0)) ++ ((rd_T59 (rd_L4 l0 x21_1) x27_2).f1)) [.string ((rdOf ByteArray.empty t185 ((rd_T59 (rd_L4 l0 x21_1) x27_2).f0)) ++ ((rd_T59 (rd_L4 l0 x21_1) x27_2).f1))] (fun k_ => some k_ ≠ (.slice (some ad192) t185.length co27 : Value).ownBlock ∧ some k_ ≠ (u5 : Value).ownBlock) (fun _ => False) rfl (by first | (go_simp; done) | (go_simp; rfl)) ?aP (fun _ hk => hk.elim) ?aF ?aO ?aB ?aS ?aL ?_; (case aP => exact rfl); (case aB => exact tb); (case aF => exact (fun k_ hk => ⟨Kd.fresh' (Kd.R_lt (by (with_reducible repeat (first | apply Kd.R_alloc | apply Kd.R_drewN | apply Kd.R_drew)); exact (Kd.R_mono (Kd.R_far (p := ⟨gb191, 1, none⟩) (Kd.R_far (p := ⟨gb191, 0, none⟩) (Kd.R_types HO_4.out BK191.out (by decide)) (fun _ hk => hk.2) (.int .u8 ((rd_T59 (rd_L4 l0 x21_1) x27_2).f0))) (fun _ hk => hk.2) (.string ((rd_T59 (rd_L4 l0 x21_1) x27_2).f1))) (fun _ h_ => h_.1)))) k_ hk, Kd.fresh' (Kd.R_lt (by (with_reducible repeat (first | apply Kd.R_alloc | apply Kd.R_drewN | apply Kd.R_drew)); exact (Kd.R_mono (Kd.R_far (p := ⟨gb191, 1, none⟩) (Kd.R_far (p := ⟨gb191, 0, none⟩) (Kd.R_types HO_5.out BK191.out (by decide)) (fun _ hk => hk.2) (.int .u8 ((rd_T59 (rd_L4 l0 x21_1) x27_2).f0))) (fun _ hk => hk.2) (.string ((rd_T59 (rd_L4 l0 x21_1) x27_2).f1))) (fun _ h_ => h_.1)))) k_ hk⟩)); (case aO => exact (by (with_reducible repeat (first | apply Kd.R_alloc | apply Kd.R_drewN | apply Kd.R_drew)); exact Kd.R_mono (Kd.R_far (p := ⟨gb191, 1, none⟩) (Kd.R_far (p := ⟨gb191, 0, none⟩) (Kd.R_types HO_8.out BK191.out (by decide)) (fun _ hk => hk.2) (.int .u8 ((rd_T59 (rd_L4 l0 x21_1) x27_2).f0))) (fun _ hk => hk.2) (.string ((rd_T59 (rd_L4 l0 x21_1) x27_2).f1))) (fun _ hk => ⟨hk.1.1, hk.1.2⟩))); (case aS => exact (below_size tb)); (case aL => have := LMc24.out; omega); intro v197 w28 ho hb hg hat; rw [← Ny196.out] at ho; replace HO_4 := Aside0.mk (Kd.R_after (ok := (fun k_ => some k_ ≠ (u5 : Value).ownBlock)) (by (with_reducible repeat (first | apply Kd.R_alloc | apply Kd.R_drewN | apply Kd.R_drew)); exact Kd.R_mono (Kd.R_far (p := ⟨gb191, 1, none⟩) (Kd.R_far (p := ⟨gb191, 0, none⟩) (Kd.R_types HO_4.out BK191.out (by decide)) (fun _ hk => hk.2) (.int .u8 ((rd_T59 (rd_L4 l0 x21_1) x27_2).f0))) (fun _ hk => hk.2) (.string ((rd_T59 (rd_L4 l0 x21_1) x27_2).f1))) (fun _ hk => ⟨hk.1.1, hk.1.2⟩)) hg hat); replace HO_5 := Aside0.mk (Kd.R_after (ok := (fun k_ => some k_ ≠ (.slice (some ad192) t185.length co27 : Value).ownBlock)) (by (with_reducible repeat (first | apply Kd.R_alloc | apply Kd.R_drewN | apply Kd.R_drew)); exact Kd.R_mono (Kd.R_far (p := ⟨gb191, 1, none⟩) (Kd.R_far (p := ⟨gb191, 0, none⟩) (Kd.R_types HO_5.out BK191.out (by decide)) (fun _ hk => hk.2) (.int .u8 ((rd_T59 (rd_L4 l0 x21_1) x27_2).f0))) (fun _ hk => hk.2) (.string ((rd_T59 (rd_L4 l0 x21_1) x27_2).f1))) (fun _ hk => ⟨hk.1.1, hk.1.2⟩)) hg hat); replace BK191 := Aside0.mk (blk_grown (g := gb191) (o := .cells #[.int .u8 ((rd_T59 (rd_L4 l0 x21_1) x27_2).f0), .string ((rd_T59 (rd_L4 l0 x21_1) x27_2).f1)] 59 (0, 0)) (by (with_reducible repeat (first | refine blk_drewN ?_ _ | refine blk_drew ?_ | refine blk_alloc ?_ _)); refine blk_put (cs := #[.int .u8 ((rd_T59 (rd_L4 l0 x21_1) x27_2).f0), .string (⟨#[]⟩ : ByteArray)]) ?_ 1 _ rfl; (with_reducible repeat (first | refine blk_drewN ?_ _ | refine blk_drew ?_ | refine blk_alloc ?_ _)); refine blk_put (cs := #[.int .u8 0, .string (⟨#[]⟩ : ByteArray)]) ?_ 0 _ rfl; (with_reducible repeat (first | refine blk_drewN ?_ _ | refine blk_drew ?_ | refine blk_alloc ?_ _)); exact BK191.out) hg (Kd.R_ne HO_8.out BK191.out (by decide))); replace HB := Aside0.mk (hb); have HO198 := Aside0.mk (ho); clear HO_8; clear ho hb hg hat))
     go_roundg k2
     case measure => have := HK1.out; have := HK2.out; omega
     case rel => exact ⟨(y196), (wrap64 (x27_2 + 1)), rf, H', ⟨by have := HK1.out; have := HK2.out; omega⟩, ⟨pR HO_4.out⟩, ⟨pR HO_5.out⟩, ⟨pR HO198.out⟩, ⟨tb⟩⟩
end Go.Proofs.YtnbmdecehlljcaaGreatDoor.PRq
