-- Laid by a program of this session (wip/tools/pgiven.py) out of the seat's translation. Lean checks it.
import Derived.Test.YtnbmdecehlljcaaGreatDoorPRqx0
import Derived.Test.YtnbmdecehlljcaaGreatDoorPRqx2
import Derived.Test.YtnbmdecehlljcaaGreatDoorPRqx7
import Derived.Test.YtnbmdecehlljcaaGreatDoorPRqx8
namespace Go.Proofs.YtnbmdecehlljcaaGreatDoor.PRq
open Go.RowKit Go.Proofs.YtnbmdecehlljcaaGreatDoorW.PrintWords Go.Proofs.YtnbmdecehlljcaaGreatDoorW.PrintLast Go.Proofs.YtnbmdecehlljcaaGreatDoorW.PrintMore
attribute [local go_sem] max2_int min2_int max_two min_two max_three min_three max_four min_four   -- for this text's walks alone
set_option linter.unusedVariables false
set_option linter.unusedSimpArgs false

attribute [local go_sem] isSome_setCellV
/-! ### tithebarnref14_Parse: function 23 -/
mutual
def tithebarnref14_Parse.l0 : Nat → List (List (S59)) → List ByteArray → Int → Option ((List (List (S59))) × Int)
 | 0, _, _, _ => none
 | k + 1, x4, x5, x6 => if x6 < (x5.length : Int) then (if 0 ≤ x6 then ((tithebarnref14_split.f k (rdOf ByteArray.empty x5 x6) 44).bind fun t145 => (tithebarnref14_Parse.l1 k x4 x5 x6 ([] : List (S59)) t145 0)) else (none)) else ((tithebarnref14_May.f k x4).bind fun t143 => (if t143 = true then (some (x4, 0)) else (some (([] : List (List (S59))), 140))))
def tithebarnref14_Parse.l1 : Nat → List (List (S59)) → List ByteArray → Int → List (S59) → List ByteArray → Int → Option ((List (List (S59))) × Int)
 | 0, _, _, _, _, _, _ => none
 | k + 1, x4, x5, x6, x7, x8, x9 => if x9 < (x8.length : Int) then (if 0 ≤ x9 then ((tithebarnref14_bound.f k (rdOf ByteArray.empty x8 x9)).bind fun bt149 => (if bt149.2.2 = true then (if x7.length < 5864062014805 then (tithebarnref14_Parse.l1 k x4 x5 x6 (x7 ++ [(⟨bt149.1, bt149.2.1⟩ : S59)]) x8 (wrap64 (x9 + 1))) else (none)) else (some (([] : List (List (S59))), 140)))) else (none)) else (if x4.length < 5864062014805 then (tithebarnref14_Parse.l0 k (x4 ++ [x7]) x5 (wrap64 (x6 + 1))) else (none))
end
def tithebarnref14_Parse.f (k : Nat) (a0 : ByteArray) : Option ((List (List (S59))) × Int) := (tithebarnref14_split.f k a0 124).bind fun t140 => (tithebarnref14_Parse.l0 k ([] : List (List (S59))) t140 0)
theorem tithebarnref14_Parse.mono_l : ∀ k, (∀ y0 y1 y2, LeO (tithebarnref14_Parse.l0 k y0 y1 y2) (tithebarnref14_Parse.l0 (k + 1) y0 y1 y2)) ∧ (∀ y0 y1 y2 y3 y4 y5, LeO (tithebarnref14_Parse.l1 k y0 y1 y2 y3 y4 y5) (tithebarnref14_Parse.l1 (k + 1) y0 y1 y2 y3 y4 y5))
 | 0 => ⟨fun _ _ _ r h => by simp [tithebarnref14_Parse.l0] at h, fun _ _ _ _ _ _ r h => by simp [tithebarnref14_Parse.l1] at h⟩
 | k + 1 => by
  obtain ⟨ih0, ih1⟩ := tithebarnref14_Parse.mono_l k
  refine ⟨?_, ?_⟩
  · intro y0 y1 y2
    unfold tithebarnref14_Parse.l0
    repeat' first
    | (with_reducible exact ih0 _ _ _)
    | (with_reducible exact ih1 _ _ _ _ _ _)
    | (with_reducible exact tithebarnref14_May.mono _ _)
    | (with_reducible exact tithebarnref14_bound.mono _ _)
    | (with_reducible exact tithebarnref14_split.mono _ _ _)
    | (with_reducible exact LeO.refl _)
    | (with_reducible exact LeO.none _)
    | (with_reducible refine LeO.ite ?_ ?_)
    | (with_reducible refine LeO.bind ?_ (fun _ => ?_))
    | exact ih0 _ _ _
    | exact ih1 _ _ _ _ _ _
    | exact tithebarnref14_May.mono _ _
    | exact tithebarnref14_bound.mono _ _
    | exact tithebarnref14_split.mono _ _ _
    | exact LeO.none _
    | refine LeO.ite ?_ ?_
    | refine LeO.bind ?_ (fun _ => ?_)
  · intro y0 y1 y2 y3 y4 y5
    unfold tithebarnref14_Parse.l1
    repeat' first
    | (with_reducible exact ih0 _ _ _)
    | (with_reducible exact ih1 _ _ _ _ _ _)
    | (with_reducible exact tithebarnref14_May.mono _ _)
    | (with_reducible exact tithebarnref14_bound.mono _ _)
    | (with_reducible exact tithebarnref14_split.mono _ _ _)
    | (with_reducible exact LeO.refl _)
    | (with_reducible exact LeO.none _)
    | (with_reducible refine LeO.ite ?_ ?_)
    | (with_reducible refine LeO.bind ?_ (fun _ => ?_))
    | exact ih0 _ _ _
    | exact ih1 _ _ _ _ _ _
    | exact tithebarnref14_May.mono _ _
    | exact tithebarnref14_bound.mono _ _
    | exact tithebarnref14_split.mono _ _ _
    | exact LeO.none _
    | refine LeO.ite ?_ ?_
    | refine LeO.bind ?_ (fun _ => ?_)
theorem tithebarnref14_Parse.mono : ∀ a0 k, LeO (tithebarnref14_Parse.f k a0) (tithebarnref14_Parse.f (k + 1) a0) := by
 intro a0 k
 obtain ⟨ih0, ih1⟩ := tithebarnref14_Parse.mono_l k
 unfold tithebarnref14_Parse.f
 repeat' first
  | (with_reducible exact ih0 _ _ _)
  | (with_reducible exact ih1 _ _ _ _ _ _)
  | (with_reducible exact tithebarnref14_May.mono _ _)
  | (with_reducible exact tithebarnref14_bound.mono _ _)
  | (with_reducible exact tithebarnref14_split.mono _ _ _)
  | (with_reducible exact LeO.refl _)
  | (with_reducible exact LeO.none _)
  | (with_reducible refine LeO.ite ?_ ?_)
  | (with_reducible refine LeO.bind ?_ (fun _ => ?_))
  | exact ih0 _ _ _
  | exact ih1 _ _ _ _ _ _
  | exact tithebarnref14_May.mono _ _
  | exact tithebarnref14_bound.mono _ _
  | exact tithebarnref14_split.mono _ _ _
  | exact LeO.none _
  | refine LeO.ite ?_ ?_
  | refine LeO.bind ?_ (fun _ => ?_)
set_option maxHeartbeats 8000000 in
set_option maxRecDepth 100000 in
theorem tithebarnref14_Parse.calls (k : Nat) (a0 : ByteArray) (r1 : List (List (S59))) (r2 : Int) (w : World) (h : tithebarnref14_Parse.f k a0 = some (r1, r2)) :
 Calls Tryz.prog 23 #[.string a0] w fun e w' => ∃ v0_ : Value, e = .returned (.tuple #[v0_, .int .i64 r2]) ∧ Kd.S (Kd.slice 59 k59) 47 w' w.heap.size (fun _ => True) v0_ r1 ∧ Below w.heap.size w w' := by
 have hu59 := Tryz.underlying59
 have HB := Aside0.mk (Below.refl w.heap.size w)
 have H : ((tithebarnref14_split.f k a0 124).bind fun t140 => (tithebarnref14_Parse.l0 k ([] : List (List (S59))) t140 0)) = some (r1, r2) := h
 clear h
 obtain ⟨t140, A20, H⟩ := Option.bind_eq_some_iff.mp H
 have A2 := Aside0.mk A20
 clear A20
 have H' := Aside0.mk H
 clear H
 go_enter Tryz.func23, Tryz.ntmps23
 go_wp2_with (first | ((with_reducible refine gate_callee (f := 51) rfl ?_); refine goesL_ (some 13) rfl rfl Tryz.func51 (by kernel_rfl) rfl #[.string a0, .int .u8 124] rfl gl ?_; (with_reducible refine (tithebarnref14_split.calls k a0 124 t140 _ A2.out).mono ?_); rintro e w3 ⟨v141, rfl, ho0, hb⟩; refine ⟨_, rfl, ?_⟩; have HO142 := Aside0.mk (Kd.R_lower ho0 (below_size tb)); replace HB := Aside0.mk (below_step tb hb); (try clear hb); (try clear ho0)))
 go_loopg [4, 6] k (fun kq v4 v6 w' => ∃ (x4_1 : List (List (S59))) (x6_1 : Int), v6 = .int .i64 x6_1 ∧ Aside0 (tithebarnref14_Parse.l0 kq x4_1 t140 x6_1 = some (r1, r2)) ∧ Aside0 (kq ≤ k) ∧ Aside0 (Kd.S (Kd.slice 59 k59) 47 w' w.heap.size (fun _ => True) v4 x4_1) ∧ Aside0 (Kd.R Kd.string 9 w' w.heap.size (fun _ => True) v141 t140) ∧ Aside0 (Below w.heap.size w w'))
 case atStart => exact ⟨(([] : List (List (S59)))), (0), rf, H', ⟨Nat.le_refl _⟩, ⟨by first | exact Kd.S_nil _ _ _ _ _ | exact Kd.N_nil _ _ _ _ _ | exact Kd.V_nil _ _ _ _ _ | exact Kd.Q_nil _ _ _ _ _ | exact Kd.R_nil _ _ _ _ _⟩, ⟨pR HO142.out⟩, ⟨tb⟩⟩
 case round =>
  clear H'
  try clear c2
  try clear p2
  obtain ⟨x4_1, x6_1, rfl, HA, HK1, HO_4, HO_5, HB⟩ := hrel
  cases gk with
  | zero => exact absurd HA.out (by simp [tithebarnref14_Parse.l0])
  | succ k1 =>
   have H := HA.out
   clear HA
   simp only [tithebarnref14_Parse.l0] at H
   by_cases c4 : x6_1 < (t140.length : Int)
   rotate_left
   · rw [if_neg c4] at H
     have c4b0 : decide (x6_1 < (t140.length : Int)) = false := decide_eq_false c4
     clear c4
     obtain ⟨t143, A270, H⟩ := Option.bind_eq_some_iff.mp H
     have A27 := Aside0.mk A270
     clear A270
     by_cases c28 : t143 = true
     · subst c28
       rw [if_pos rfl] at H
       simp only [Option.some.injEq, Prod.mk.injEq] at H
       obtain ⟨rfl, rfl⟩ := H
       obtain ⟨Ao29, co29, eo29⟩ := Kd.R_slice HO_5.out
       subst eo29
       obtain ⟨Ao30, co30, eo30⟩ := Kd.S_slice HO_4.out
       subst eo30
       go_wp2_with (first | ((with_reducible refine gate_callee (f := 53) rfl ?_); refine goesL_ (some 50) rfl rfl Tryz.func53 (by kernel_rfl) rfl #[.slice Ao30 x4_1.length co30] rfl gl ?_; (with_reducible refine (tithebarnref14_May.calls k1 _ _ x4_1 true _ ?side1 ?side2 A27.out).mono ?_); (case side1 => exact pC (Kd.S_reads' HO_4.out).2.2); (case side2 => exact (Kd.S_reads' HO_4.out).2.1); rintro e w31 ⟨rfl, hb⟩; refine ⟨_, rfl, ?_⟩; replace HO_4 := bS HO_4 hb; replace HO_5 := bR HO_5 hb; replace HB := Aside0.mk (below_step tb hb); (try clear hb)))
       go_ret2
       exact ⟨_, by first | rfl | (simp [errW_none, errW_some] <;> rfl) | (simp [*, errW_none, errW_some] <;> rfl), by (with_reducible repeat (first | apply Kd.S_alloc | apply Kd.S_drewN | apply Kd.S_drew)); exact HO_4.out, tb⟩
     replace c28 := Bool.eq_false_iff.mpr c28
     subst c28
     rw [if_neg (show ¬ (false = true) by decide)] at H
     simp only [Option.some.injEq, Prod.mk.injEq] at H
     obtain ⟨rfl, rfl⟩ := H
     obtain ⟨Ao32, co32, eo32⟩ := Kd.R_slice HO_5.out
     subst eo32
     obtain ⟨Ao33, co33, eo33⟩ := Kd.S_slice HO_4.out
     subst eo33
     go_wp2_with (first | ((with_reducible refine gate_callee (f := 53) rfl ?_); refine goesL_ (some 50) rfl rfl Tryz.func53 (by kernel_rfl) rfl #[.slice Ao33 x4_1.length co33] rfl gl ?_; (with_reducible refine (tithebarnref14_May.calls k1 _ _ x4_1 false _ ?side1 ?side2 A27.out).mono ?_); (case side1 => exact pC (Kd.S_reads' HO_4.out).2.2); (case side2 => exact (Kd.S_reads' HO_4.out).2.1); rintro e w34 ⟨rfl, hb⟩; refine ⟨_, rfl, ?_⟩; replace HO_4 := bS HO_4 hb; replace HO_5 := bR HO_5 hb; replace HB := Aside0.mk (below_step tb hb); (try clear hb)))
     go_ret2
     exact ⟨_, by first | rfl | (simp [errW_none, errW_some] <;> rfl) | (simp [*, errW_none, errW_some] <;> rfl), by first | exact Kd.S_nil _ _ _ _ _ | exact Kd.N_nil _ _ _ _ _ | exact Kd.V_nil _ _ _ _ _ | exact Kd.Q_nil _ _ _ _ _ | exact Kd.R_nil _ _ _ _ _, tb⟩

   rw [if_pos c4] at H
   have c4b0 : decide (x6_1 < (t140.length : Int)) = true := decide_eq_true c4
   clear c4
   by_cases c5 : 0 ≤ x6_1
   rotate_left
   · rw [if_neg c5] at H
     exact absurd H (by simp)
   rw [if_pos c5] at H
   have c5b0 : decide (0 ≤ x6_1) = true := decide_eq_true c5
   clear c5
   obtain ⟨t145, A60, H⟩ := Option.bind_eq_some_iff.mp H
   have A6 := Aside0.mk A60
   clear A60
   have H' := Aside0.mk H
   clear H
   obtain ⟨Ao7, co7, eo7⟩ := Kd.R_slice HO_5.out
   subst eo7
   have p144 : 0 ≤ (x6_1 : Int) := da
   have q144 : x6_1 < (t140.length : Int) := da
   obtain ⟨ad144, e144, hx144_0⟩ := Kd.at_string (Kd.R_reads' HO_5.out).2.2 x6_1 p144 q144
   cases e144
   replace p144 := eq_true p144
   replace q144 := eq_true q144
   go_wp2_with (first | ((with_reducible refine gate_callee (f := 51) rfl ?_); refine goesL_ (some 24) rfl rfl Tryz.func51 (by kernel_rfl) rfl #[.string (rdOf ByteArray.empty t140 x6_1), .int .u8 44] rfl gl ?_; (with_reducible refine (tithebarnref14_split.calls k1 (rdOf ByteArray.empty t140 x6_1) 44 t145 _ A6.out).mono ?_); rintro e w8 ⟨v146, rfl, ho0, hb⟩; refine ⟨_, rfl, ?_⟩; replace HO_4 := bS HO_4 hb; have HO147 := Aside0.mk (Kd.R_lower (Kd.R_new' ho0 (Kd.R_lt (pR HO_5.out))) (below_size tb)); replace HO_5 := Aside0.mk (Kd.R_elder' (pR HO_5.out) (Kd.R_base ho0) hb); replace HB := Aside0.mk (below_step tb hb); (try clear hb); (try clear ho0)))
   go_loopg [7, 9] k1 (fun kq v7 v9 w' => ∃ (x7_2 : List (S59)) (x9_2 : Int), v9 = .int .i64 x9_2 ∧ Aside0 (tithebarnref14_Parse.l1 kq x4_1 t140 x6_1 x7_2 t145 x9_2 = some (r1, r2)) ∧ Aside0 (kq ≤ k1) ∧ Aside0 (Kd.S (Kd.slice 59 k59) 47 w' w.heap.size (fun k_ => some k_ ≠ (v7 : Value).ownBlock) u4 x4_1) ∧ Aside0 (Kd.R Kd.string 9 w' w.heap.size (fun k_ => some k_ ≠ (v146 : Value).ownBlock) (.slice (some ad144) t140.length co7) t140) ∧ Aside0 (Kd.R k59 59 w' w.heap.size (fun _ => True) v7 x7_2) ∧ Aside0 (Kd.R Kd.string 9 w' w.heap.size (fun k_ => some k_ ≠ ((.slice (some ad144) t140.length co7) : Value).ownBlock) v146 t145) ∧ Aside0 (Below w.heap.size w w'))
   case atStart => exact ⟨(([] : List (S59))), (0), rf, H', ⟨Nat.le_refl _⟩, ⟨by (with_reducible repeat (first | apply Kd.S_alloc | apply Kd.S_drewN | apply Kd.S_drew)); exact Kd.S_mono HO_4.out (fun _ hk => (by simp [Value.ownBlock]))⟩, ⟨by (with_reducible repeat (first | apply Kd.R_alloc | apply Kd.R_drewN | apply Kd.R_drew)); exact Kd.R_mono HO_5.out (fun _ hk => hk.2)⟩, ⟨by first | exact Kd.R_nil _ _ _ _ _ | exact Kd.N_nil _ _ _ _ _ | exact Kd.V_nil _ _ _ _ _ | exact Kd.Q_nil _ _ _ _ _ | exact Kd.S_nil _ _ _ _ _⟩, ⟨by (with_reducible repeat (first | apply Kd.R_alloc | apply Kd.R_drewN | apply Kd.R_drew)); exact Kd.R_mono HO147.out (fun _ hk => hk.2)⟩, ⟨tb⟩⟩
   case round =>
    clear H'
    try clear p1
    try clear q1
    try clear hx1
    try clear c2
    try clear p2
    try clear c4
    try clear c4b0
    try clear c5
    try clear c5b0
    try clear hx144_0
    try clear p144
    try clear p2
    try clear q144
    obtain ⟨x7_2, x9_2, rfl, HA, HK2, HO_4, HO_5, HO_7, HO_8, HB⟩ := hrel
    cases gk with
    | zero => exact absurd HA.out (by simp [tithebarnref14_Parse.l1])
    | succ k2 =>
     have H := HA.out
     clear HA
     simp only [tithebarnref14_Parse.l1] at H
     by_cases c9 : x9_2 < (t145.length : Int)
     rotate_left
     · rw [if_neg c9] at H
       have c9b0 : decide (x9_2 < (t145.length : Int)) = false := decide_eq_false c9
       clear c9
       by_cases c23 : x4_1.length < 5864062014805
       rotate_left
       · rw [if_neg c23] at H
         exact absurd H (by simp)
       rw [if_pos c23] at H
       have LMc23 := Aside0.mk c23
       clear c23
       obtain ⟨y156, hy156⟩ : ∃ y_ : List (List (S59)), y_ = (x4_1 ++ [x7_2]) := ⟨_, rfl⟩
       replace H : (tithebarnref14_Parse.l0 k2 y156 t140 (wrap64 (x6_1 + 1))) = some (r1, r2) := by subst hy156; first | (with_reducible exact H) | exact H
       have Ny156 := Aside0.mk hy156
       clear hy156
       have H' := Aside0.mk H
       clear H
       obtain ⟨Ao24, co24, eo24⟩ := Kd.R_slice HO_8.out
       subst eo24
       obtain ⟨Ao26, co26, eo26⟩ := Kd.R_slice HO_7.out
       subst eo26
       go_wp2_with (first | ((with_reducible refine gate_builtin (b := .append) (xs := #[.tmp 45, .tmp 47]) rfl ?_); at_builtin; refine Kd.S_append (Kd.slice 59 k59) (w0 := w) w.heap.size rfl (.tmp 45) (.tmp 47) 42 47 (.slice none 0 0) 24 rfl Tryz.underlying42 info47 rfl (by decide) (by omega) u4 x4_1 x7_2 [.slice Ao26 x7_2.length co26] (fun _ => True) (fun k_ => some k_ = (.slice Ao26 x7_2.length co26 : Value).ownBlock) rfl rfl ?aP (fun k_ hk_ => ((Kd.R_mono (ok' := fun k_ => ((fun _ => True)) k_ ∧ some k_ ≠ (u4 : Value).ownBlock) (Kd.R_apart' (HO_7.out) (Kd.S_typed HO_4.out) (by decide)) (fun k_ hk => ⟨trivial, hk.2⟩))).1 k_ hk_.symm) ?aF ?aO ?aB ?aS ?aL ?_; (case aP => exact Kd.M_row (Kd.R_mono (Kd.R_tight rfl (Kd.R_mono (ok' := fun k_ => ((fun _ => True)) k_ ∧ some k_ ≠ (u4 : Value).ownBlock) (Kd.R_apart' (HO_7.out) (Kd.S_typed HO_4.out) (by decide)) (fun k_ hk => ⟨trivial, hk.2⟩))) (fun _ h_ => h_))); (case aB => exact tb); (case aF => exact (fun _ _ => trivial)); (case aO => exact (by (with_reducible repeat (first | apply Kd.S_alloc | apply Kd.S_drewN | apply Kd.S_drew)); exact Kd.S_mono HO_4.out (fun k_ hk => ⟨trivial, fun e_ => hk e_⟩))); (case aS => exact (below_size tb)); (case aL => have := LMc23.out; omega); intro v157 w25 ho hb hg hat; rw [← Ny156.out] at ho; replace HO_5 := Aside0.mk (Kd.R_over' (pR HO_5.out) (Kd.S_typed (pS HO_4.out)) (by decide) hg); replace HO_8 := Aside0.mk (Kd.R_over' (pR HO_8.out) (Kd.S_typed (pS HO_4.out)) (by decide) hg); replace HB := Aside0.mk (hb); have HO158 := Aside0.mk (ho); clear HO_4 HO_7; clear ho hb hg hat))
       go_roundg k2
       case measure => have := HK1.out; have := HK2.out; omega
       case rel => exact ⟨(y156), (wrap64 (x6_1 + 1)), rf, H', ⟨by have := HK1.out; have := HK2.out; omega⟩, ⟨pS HO158.out⟩, ⟨by (with_reducible repeat (first | apply Kd.R_alloc | apply Kd.R_drewN | apply Kd.R_drew)); exact Kd.R_mono HO_5.out (fun _ hk => trivial)⟩, ⟨tb⟩⟩
     rw [if_pos c9] at H
     have c9b0 : decide (x9_2 < (t145.length : Int)) = true := decide_eq_true c9
     clear c9
     by_cases c10 : 0 ≤ x9_2
     rotate_left
     · rw [if_neg c10] at H
       exact absurd H (by simp)
     rw [if_pos c10] at H
     have c10b0 : decide (0 ≤ x9_2) = true := decide_eq_true c10
     clear c10
     replace H := Option.bind_eq_some_iff.mp H
     obtain ⟨⟨t149, t150, t151⟩, A110, H⟩ := H
     replace H : (if t151 = true then (if x7_2.length < 5864062014805 then (tithebarnref14_Parse.l1 k2 x4_1 t140 x6_1 (x7_2 ++ [(⟨t149, t150⟩ : S59)]) t145 (wrap64 (x9_2 + 1))) else (none)) else (some (([] : List (List (S59))), 140))) = some (r1, r2) := H
     have A11 := Aside0.mk A110
     clear A110
     by_cases c12 : t151 = true
     rotate_left
     · replace c12 := Bool.eq_false_iff.mpr c12
       subst c12
       rw [if_neg (show ¬ (false = true) by decide)] at H
       simp only [Option.some.injEq, Prod.mk.injEq] at H
       obtain ⟨rfl, rfl⟩ := H
       obtain ⟨Ao19, co19, eo19⟩ := Kd.R_slice HO_8.out
       subst eo19
       have p148 : 0 ≤ (x9_2 : Int) := da
       have q148 : x9_2 < (t145.length : Int) := da
       obtain ⟨ad148, e148, hx148_0⟩ := Kd.at_string (Kd.R_reads' HO_8.out).2.2 x9_2 p148 q148
       cases e148
       replace p148 := eq_true p148
       replace q148 := eq_true q148
       go_wp2_with (first | ((with_reducible refine gate_callee (f := 52) rfl ?_); refine goesL_ (some 36) rfl rfl Tryz.func52 (by kernel_rfl) rfl #[.string (rdOf ByteArray.empty t145 x9_2)] rfl gl ?_; (with_reducible refine (tithebarnref14_bound.calls k2 (rdOf ByteArray.empty t145 x9_2) t149 t150 false _ A11.out).mono ?_); rintro e w20 ⟨rfl, hb⟩; refine ⟨_, rfl, ?_⟩; replace HO_4 := bS HO_4 hb; replace HO_5 := bR HO_5 hb; replace HO_7 := bR HO_7 hb; replace HO_8 := bR HO_8 hb; replace HB := Aside0.mk (below_step tb hb); (try clear hb)) | ((with_reducible refine gate_dst (N := 10) rfl ?_); refine box_event ?hg (N := 10) ?hd (cs := #[.int .u8 0, .string (⟨#[]⟩ : ByteArray)]) (t := 59) ?hr ?_; (case hd => rfl); (case hg => rfl); (case hr => first | (go_simp; done) | (go_simp; rfl)); intro gb152 hg w21 hbox hb; replace HO_4 := Aside0.mk (Kd.S_below (Kd.S_elderB (pS HO_4.out) gb152 (Nat.le_of_eq hg.symm)) hb); replace HO_5 := bR HO_5 hb; replace HO_7 := Aside0.mk (Kd.R_below (Kd.R_elderB (pR HO_7.out) gb152 (Nat.le_of_eq hg.symm)) hb); replace HO_8 := bR HO_8 hb; have BK152 := Aside0.mk (hbox); have GW152 := Aside0.mk ((by rw [hg]; exact (below_size tb) : w.heap.size ≤ gb152)); have GE152 := Aside0.mk ((by rw [hg]; exact (below_size tb) : w.heap.size ≤ gb152)); replace HB := Aside0.mk (below_step tb hb); clear hb hbox hg; have hcz22_0 : w21.cell? ⟨gb152, 0, none⟩ = some (.int .u8 0) := (blk_cell BK152.out 0).trans rfl; have hcz22_1 : w21.cell? ⟨gb152, 1, none⟩ = some (.string (⟨#[]⟩ : ByteArray)) := (blk_cell BK152.out 1).trans rfl; have hfz22_0 := blk_frozen BK152.out 0; have hfz22_1 := blk_frozen BK152.out 1))
       go_ret2
       exact ⟨_, by first | rfl | (simp [errW_none, errW_some] <;> rfl) | (simp [*, errW_none, errW_some] <;> rfl), by first | exact Kd.S_nil _ _ _ _ _ | exact Kd.N_nil _ _ _ _ _ | exact Kd.V_nil _ _ _ _ _ | exact Kd.Q_nil _ _ _ _ _ | exact Kd.R_nil _ _ _ _ _, tb⟩
     subst c12
     rw [if_pos rfl] at H
     by_cases c13 : x7_2.length < 5864062014805
     rotate_left
     · rw [if_neg c13] at H
       exact absurd H (by simp)
     rw [if_pos c13] at H
     have LMc13 := Aside0.mk c13
     clear c13
     obtain ⟨y153, hy153⟩ : ∃ y_ : List (S59), y_ = (x7_2 ++ [(⟨t149, t150⟩ : S59)]) := ⟨_, rfl⟩
     replace H : (tithebarnref14_Parse.l1 k2 x4_1 t140 x6_1 y153 t145 (wrap64 (x9_2 + 1))) = some (r1, r2) := by subst hy153; first | (with_reducible exact H) | exact H
     have Ny153 := Aside0.mk hy153
     clear hy153
     have H' := Aside0.mk H
     clear H
     obtain ⟨Ao14, co14, eo14⟩ := Kd.R_slice HO_8.out
     subst eo14
     have p148 : 0 ≤ (x9_2 : Int) := da
     have q148 : x9_2 < (t145.length : Int) := da
     obtain ⟨ad148, e148, hx148_0⟩ := Kd.at_string (Kd.R_reads' HO_8.out).2.2 x9_2 p148 q148
     cases e148
     replace p148 := eq_true p148
     replace q148 := eq_true q148
     go_wp2_with (first | ((with_reducible refine gate_callee (f := 52) rfl ?_); refine goesL_ (some 36) rfl rfl Tryz.func52 (by kernel_rfl) rfl #[.string (rdOf ByteArray.empty t145 x9_2)] rfl gl ?_; (with_reducible refine (tithebarnref14_bound.calls k2 (rdOf ByteArray.empty t145 x9_2) t149 t150 true _ A11.out).mono ?_); rintro e w15 ⟨rfl, hb⟩; refine ⟨_, rfl, ?_⟩; replace HO_4 := bS HO_4 hb; replace HO_5 := bR HO_5 hb; replace HO_7 := bR HO_7 hb; replace HO_8 := bR HO_8 hb; replace HB := Aside0.mk (below_step tb hb); (try clear hb)) | ((with_reducible refine gate_dst (N := 10) rfl ?_); refine box_event ?hg (N := 10) ?hd (cs := #[.int .u8 0, .string (⟨#[]⟩ : ByteArray)]) (t := 59) ?hr ?_; (case hd => rfl); (case hg => rfl); (case hr => first | (go_simp; done) | (go_simp; rfl)); intro gb152 hg w16 hbox hb; replace HO_4 := Aside0.mk (Kd.S_below (Kd.S_elderB (pS HO_4.out) gb152 (Nat.le_of_eq hg.symm)) hb); replace HO_5 := bR HO_5 hb; replace HO_7 := Aside0.mk (Kd.R_below (Kd.R_elderB (pR HO_7.out) gb152 (Nat.le_of_eq hg.symm)) hb); replace HO_8 := bR HO_8 hb; have BK152 := Aside0.mk (hbox); have GW152 := Aside0.mk ((by rw [hg]; exact (below_size tb) : w.heap.size ≤ gb152)); have GE152 := Aside0.mk ((by rw [hg]; exact (below_size tb) : w.heap.size ≤ gb152)); replace HB := Aside0.mk (below_step tb hb); clear hb hbox hg; have hcz17_0 : w16.cell? ⟨gb152, 0, none⟩ = some (.int .u8 0) := (blk_cell BK152.out 0).trans rfl; have hcz17_1 : w16.cell? ⟨gb152, 1, none⟩ = some (.string (⟨#[]⟩ : ByteArray)) := (blk_cell BK152.out 1).trans rfl; have hfz17_0 := blk_frozen BK152.out 0; have hfz17_1 := blk_frozen BK152.out 1) | ((with_reducible refine gate_builtin (b := .append) (xs := #[.tmp 41, .tmp 43]) rfl ?_); at_builtin; refine Kd.R_append k59 (w0 := w) w.heap.size rfl (.tmp 41) (.tmp 43) 47 59 (.agg #[(.int .u8 0), (.string ⟨#[]⟩)]) 24 rfl Tryz.underlying47 info59 rfl (by decide) (by omega) u7 x7_2 (⟨t149, t150⟩ : S59) [.int .u8 t149, .string t150] (fun k_ => k_ ≠ gb152) (fun _ => False) rfl (by first | (go_simp; done) | (go_simp; rfl)) ?aP (fun _ hk => hk.elim) ?aF ?aO ?aB ?aS ?aL ?_; (case aP => exact k59_mkM _ _ _ (⟨t149, t150⟩ : S59)); (case aB => exact tb); (case aF => exact (fun k_ hk => Kd.freshB (g := gb152) (o := .cells #[.int .u8 t149, .string t150] 59 (0, 0)) (by (with_reducible repeat (first | refine blk_drewN ?_ _ | refine blk_drew ?_ | refine blk_alloc ?_ _)); refine blk_put (cs := #[.int .u8 t149, .string (⟨#[]⟩ : ByteArray)]) ?_ 1 _ rfl; (with_reducible repeat (first | refine blk_drewN ?_ _ | refine blk_drew ?_ | refine blk_alloc ?_ _)); refine blk_put (cs := #[.int .u8 0, .string (⟨#[]⟩ : ByteArray)]) ?_ 0 _ rfl; (with_reducible repeat (first | refine blk_drewN ?_ _ | refine blk_drew ?_ | refine blk_alloc ?_ _)); exact BK152.out) k_ hk)); (case aO => exact (by (with_reducible repeat (first | apply Kd.R_alloc | apply Kd.R_drewN | apply Kd.R_drew)); exact Kd.R_mono (Kd.R_far (p := ⟨gb152, 1, none⟩) (Kd.R_far (p := ⟨gb152, 0, none⟩) (Kd.R_mono HO_7.out (fun k_ hk => (⟨hk, hk.2⟩ : _ ∧ k_ ≠ gb152))) (fun _ hk => hk.2) (.int .u8 t149)) (fun _ hk => hk.2) (.string t150)) (fun _ hk => hk.1.2))); (case aS => exact (below_size tb)); (case aL => have := LMc13.out; omega); intro v154 w18 ho hb hg hat; rw [← Ny153.out] at ho; replace HO_4 := Aside0.mk (Kd.S_after (ok := (fun k_ => k_ ≠ gb152)) (by (with_reducible repeat (first | apply Kd.S_alloc | apply Kd.S_drewN | apply Kd.S_drew)); exact Kd.S_mono (Kd.S_far (p := ⟨gb152, 1, none⟩) (Kd.S_far (p := ⟨gb152, 0, none⟩) (Kd.S_mono HO_4.out (fun k_ hk => (⟨hk, hk.2⟩ : _ ∧ k_ ≠ gb152))) (fun _ hk => hk.2) (.int .u8 t149)) (fun _ hk => hk.2) (.string t150)) (fun _ hk => ⟨hk.1.2, hk.1.1⟩)) hg hat); replace HO_5 := Aside0.mk (Kd.R_over' (by (with_reducible repeat (first | apply Kd.R_alloc | apply Kd.R_drewN | apply Kd.R_drew)); exact (Kd.R_mono (Kd.R_far (p := ⟨gb152, 1, none⟩) (Kd.R_far (p := ⟨gb152, 0, none⟩) (Kd.R_types HO_5.out BK152.out (by decide)) (fun _ hk => hk.2) (.int .u8 t149)) (fun _ hk => hk.2) (.string t150)) (fun _ h_ => h_.1))) (Kd.R_typed (by (with_reducible repeat (first | apply Kd.R_alloc | apply Kd.R_drewN | apply Kd.R_drew)); exact (Kd.R_mono (Kd.R_far (p := ⟨gb152, 1, none⟩) (Kd.R_far (p := ⟨gb152, 0, none⟩) (Kd.R_mono HO_7.out (fun k_ hk => (⟨hk, hk.2⟩ : _ ∧ k_ ≠ gb152))) (fun _ hk => hk.2) (.int .u8 t149)) (fun _ hk => hk.2) (.string t150)) (fun _ h_ => h_.1)))) (by decide) hg); replace HO_8 := Aside0.mk (Kd.R_over' (by (with_reducible repeat (first | apply Kd.R_alloc | apply Kd.R_drewN | apply Kd.R_drew)); exact (Kd.R_mono (Kd.R_far (p := ⟨gb152, 1, none⟩) (Kd.R_far (p := ⟨gb152, 0, none⟩) (Kd.R_types HO_8.out BK152.out (by decide)) (fun _ hk => hk.2) (.int .u8 t149)) (fun _ hk => hk.2) (.string t150)) (fun _ h_ => h_.1))) (Kd.R_typed (by (with_reducible repeat (first | apply Kd.R_alloc | apply Kd.R_drewN | apply Kd.R_drew)); exact (Kd.R_mono (Kd.R_far (p := ⟨gb152, 1, none⟩) (Kd.R_far (p := ⟨gb152, 0, none⟩) (Kd.R_mono HO_7.out (fun k_ hk => (⟨hk, hk.2⟩ : _ ∧ k_ ≠ gb152))) (fun _ hk => hk.2) (.int .u8 t149)) (fun _ hk => hk.2) (.string t150)) (fun _ h_ => h_.1)))) (by decide) hg); replace BK152 := Aside0.mk (blk_grown (g := gb152) (o := .cells #[.int .u8 t149, .string t150] 59 (0, 0)) (by (with_reducible repeat (first | refine blk_drewN ?_ _ | refine blk_drew ?_ | refine blk_alloc ?_ _)); refine blk_put (cs := #[.int .u8 t149, .string (⟨#[]⟩ : ByteArray)]) ?_ 1 _ rfl; (with_reducible repeat (first | refine blk_drewN ?_ _ | refine blk_drew ?_ | refine blk_alloc ?_ _)); refine blk_put (cs := #[.int .u8 0, .string (⟨#[]⟩ : ByteArray)]) ?_ 0 _ rfl; (with_reducible repeat (first | refine blk_drewN ?_ _ | refine blk_drew ?_ | refine blk_alloc ?_ _)); exact BK152.out) hg (Kd.R_away HO_7.out (fun _ hk => hk.2))); replace HB := Aside0.mk (hb); have HO155 := Aside0.mk (ho); clear HO_7; clear ho hb hg hat))
     go_roundg k2
     case measure => have := HK1.out; have := HK2.out; omega
     case rel => exact ⟨(y153), (wrap64 (x9_2 + 1)), rf, H', ⟨by have := HK1.out; have := HK2.out; omega⟩, ⟨by (with_reducible repeat (first | apply Kd.S_alloc | apply Kd.S_drewN | apply Kd.S_drew)); exact Kd.S_mono HO_4.out (fun _ hk => hk.2)⟩, ⟨pR HO_5.out⟩, ⟨by (with_reducible repeat (first | apply Kd.R_alloc | apply Kd.R_drewN | apply Kd.R_drew)); exact Kd.R_mono HO155.out (fun _ hk => trivial)⟩, ⟨pR HO_8.out⟩, ⟨tb⟩⟩
end Go.Proofs.YtnbmdecehlljcaaGreatDoor.PRq
