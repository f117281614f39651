-- Laid by a program of this session (wip/tools/pgiven.py) out of the seat's translation. Lean checks it.
import Derived.Test.YtnbmdecehlljcaaGreatDoorPVerx0
import Derived.Test.YtnbmdecehlljcaaGreatDoorPVerx3
import Derived.Test.YtnbmdecehlljcaaGreatDoorPVerx4
namespace Go.Proofs.YtnbmdecehlljcaaGreatDoor.PVer
open Go.RowKit Go.Proofs.YtnbmdecehlljcaaGreatDoorW.PrintWords Go.Proofs.YtnbmdecehlljcaaGreatDoorW.PrintLast Go.Proofs.YtnbmdecehlljcaaGreatDoorW.PrintMore
attribute [local go_sem] max2_int min2_int max_two min_two max_three min_three max_four min_four   -- for this text's walks alone
set_option linter.unusedVariables false
set_option linter.unusedSimpArgs false

attribute [local go_sem] isSome_setCellV
/-! ### tithebarnlaw13_VersionPrint: function 3 -/
def tithebarnlaw13_VersionPrint.j0 : Nat → Bool → List Int → ByteArray → Option (Bool)
  | 0, _, _, _ => none
  | k + 1, x16, x118000, x118001 => if x16 = true then ((tithebarnlaw13_works.f).bind fun t118 => (some t118)) else ((version_Print.f x118000 x118001).bind fun bt119 => ((tithebarnlaw13_plain.f x118000 x118001).bind fun bt121 => ((tithebarnref13_Print.f k bt121.1 bt121.2).bind fun bt125 => (if bt119.1.toList = bt125.1.toList then (if bt119.2 = bt125.2 then ((tithebarnlaw13_works.f).bind fun t127 => (some t127)) else (some false)) else (some false)))))
def tithebarnlaw13_VersionPrint.f (k : Nat) (l0_0 : List Int) (a0_1 : ByteArray) : Option (Bool) := if (l0_0.length : Int) > 100 then (tithebarnlaw13_VersionPrint.j0 k true l0_0 a0_1) else (tithebarnlaw13_VersionPrint.j0 k (decide ((a0_1.size : Int) > 100)) l0_0 a0_1)
theorem tithebarnlaw13_VersionPrint.mono_l : ∀ k, (∀ y0 y1 y2, LeO (tithebarnlaw13_VersionPrint.j0 k y0 y1 y2) (tithebarnlaw13_VersionPrint.j0 (k + 1) y0 y1 y2))
  | 0 => fun _ _ _ r h => by simp [tithebarnlaw13_VersionPrint.j0] at h
  | k + 1 => by
    have ih0 := tithebarnlaw13_VersionPrint.mono_l k
    · intro y0 y1 y2
      unfold tithebarnlaw13_VersionPrint.j0
      repeat' first
      | (with_reducible exact ih0 _ _ _)
      | (with_reducible exact tithebarnref13_Print.mono _ _ _)
      | (with_reducible exact LeO.refl _)
      | (with_reducible exact LeO.none _)
      | (with_reducible refine LeO.ite ?_ ?_)
      | (with_reducible refine LeO.bind ?_ (fun _ => ?_))
      | exact ih0 _ _ _
      | exact tithebarnref13_Print.mono _ _ _
      | exact LeO.none _
      | refine LeO.ite ?_ ?_
      | refine LeO.bind ?_ (fun _ => ?_)
theorem tithebarnlaw13_VersionPrint.mono : ∀ a0 a1 k, LeO (tithebarnlaw13_VersionPrint.f k a0 a1) (tithebarnlaw13_VersionPrint.f (k + 1) a0 a1) := by
  intro a0 a1 k
  have ih0 := tithebarnlaw13_VersionPrint.mono_l k
  unfold tithebarnlaw13_VersionPrint.f
  repeat' first
      | (with_reducible exact ih0 _ _ _)
      | (with_reducible exact tithebarnref13_Print.mono _ _ _)
      | (with_reducible exact LeO.refl _)
      | (with_reducible exact LeO.none _)
      | (with_reducible refine LeO.ite ?_ ?_)
      | (with_reducible refine LeO.bind ?_ (fun _ => ?_))
      | exact ih0 _ _ _
      | exact tithebarnref13_Print.mono _ _ _
      | exact LeO.none _
      | refine LeO.ite ?_ ?_
      | refine LeO.bind ?_ (fun _ => ?_)
set_option maxHeartbeats 8000000 in
set_option maxRecDepth 100000 in
theorem tithebarnlaw13_VersionPrint.calls (k : Nat) (A0_0 : Option Addr) (c0_0 : Nat) (l0_0 : List Int) (a0_1 : ByteArray) (r : Bool) (w : World) (hr0_0 : Kd.C (Kd.int .i64) w A0_0 l0_0.length l0_0) (hc0_0 : l0_0.length ≤ c0_0) (hT : VTabs w) (h : tithebarnlaw13_VersionPrint.f k l0_0 a0_1 = some r) (hr : r = true) :
    Calls Tryz.prog 3 #[.agg #[.slice A0_0 l0_0.length c0_0, .string a0_1]] w fun e w' => e = .returned (.bool r) ∧ Below w.heap.size w w' := by
  have HRT := Aside0.mk hr
  clear hr
  have hu24 := Tryz.underlying24
  have HR0_0 := Aside0.mk hr0_0
  have HC0_0 := Aside0.mk hc0_0
  clear hr0_0 hc0_0
  have HB := Aside0.mk (Below.refl w.heap.size w)
  have HTabs := Aside0.mk hT
  clear hT
  have H : (if (l0_0.length : Int) > 100 then (tithebarnlaw13_VersionPrint.j0 k true l0_0 a0_1) else (tithebarnlaw13_VersionPrint.j0 k (decide ((a0_1.size : Int) > 100)) l0_0 a0_1)) = some r := h
  clear h
  have HC2 := Aside0.mk H
  clear H
  go_enter Tryz.func3, Tryz.ntmps3
  go_upto_region 1 with (first | ((with_reducible refine gate_dst (N := 1) rfl ?_); (try (refine gate_guard (by rfl) ?_; dsimp only)); refine box_event ?hg (N := 1) ?hd (cs := #[.slice A0_0 l0_0.length c0_0, .string a0_1]) (t := 24) ?hr ?_; (case hd => rfl); (case hg => rfl); (case hr => first | (go_simp; done) | (go_simp; rfl)); intro gb117 hg w3 hbox hb; have n0_ := Aside0.mk (below_step tb hb); have n1_ := Aside0.mk (hbox); have n2_ := Aside0.mk ((by rw [hg]; exact (below_size tb) : w.heap.size ≤ gb117)); have n3_ := Aside0.mk ((by rw [hg]; exact (below_size tb) : w.heap.size ≤ gb117)); clear HB; have HB := n0_; have BK117 := n1_; have GW117 := n2_; have GE117 := n3_; clear n0_ n1_ n2_ n3_; clear hb hbox hg))
  (try simp only [Act.put, List.setIfInBounds_toArray, List.set_cons_zero, List.set_cons_succ])
  go_cut [16] (fun v16 wc => ∃ (kq : Nat) (x16_1 : Bool), v16 = .bool x16_1 ∧ Aside0 (tithebarnlaw13_VersionPrint.j0 kq x16_1 l0_0 a0_1 = some r) ∧ Aside0 (kq ≤ k) ∧ Aside0 (wc.heap[gb117]? = some (.cells #[(.slice A0_0 l0_0.length c0_0), .string a0_1] 24 (0, 0))) ∧ Aside0 (Below w.heap.size w wc))
  case first =>
    have H := HC2.out
    clear HC2
    by_cases c4 : (l0_0.length : Int) > 100
    · rw [if_pos c4] at H
      have c4b0 : decide (100 < (l0_0.length : Int)) = true := decide_eq_true c4
      have c4b1 : decide (100 < l0_0.length) = true := decide_eq_true (by omega)
      clear c4
      (first | rw [c4b0] | (simp only [i64_w, i32_w]; rw [c4b0]) | skip)
      have H' := Aside0.mk H
      clear H
      have hcz5_0 : w3.cell? ⟨gb117, 0, none⟩ = some (.slice A0_0 l0_0.length c0_0) := (blk_cell BK117.out 0).trans rfl
      have hcz5_1 : w3.cell? ⟨gb117, 1, none⟩ = some (.string a0_1) := (blk_cell BK117.out 1).trans rfl
      have hfz5_0 := blk_frozen BK117.out 0
      have hfz5_1 := blk_frozen BK117.out 1
      go_wp2
      go_meet
      case rel => exact ⟨_, (true), (by first | rfl | (simp; done) | (simp [*]; done)), H', ⟨by first | omega | exact Nat.le_refl _⟩, ⟨by (with_reducible repeat (first | refine blk_drewN ?_ _ | refine blk_drew ?_ | refine blk_alloc ?_ _)); exact BK117.out⟩, ⟨tb⟩⟩
    rw [if_neg c4] at H
    have c4b0 : decide (100 < (l0_0.length : Int)) = false := decide_eq_false c4
    have c4b1 : decide (100 < l0_0.length) = false := decide_eq_false (by omega)
    clear c4
    (first | rw [c4b0] | (simp only [i64_w, i32_w]; rw [c4b0]) | skip)
    have H' := Aside0.mk H
    clear H
    have hcz6_0 : w3.cell? ⟨gb117, 0, none⟩ = some (.slice A0_0 l0_0.length c0_0) := (blk_cell BK117.out 0).trans rfl
    have hcz6_1 : w3.cell? ⟨gb117, 1, none⟩ = some (.string a0_1) := (blk_cell BK117.out 1).trans rfl
    have hfz6_0 := blk_frozen BK117.out 0
    have hfz6_1 := blk_frozen BK117.out 1
    go_wp2
    go_meet
    case rel => exact ⟨_, (decide ((a0_1.size : Int) > 100)), (by first | rfl | (simp; done) | (simp [*]; done)), H', ⟨by first | omega | exact Nat.le_refl _⟩, ⟨by (with_reducible repeat (first | refine blk_drewN ?_ _ | refine blk_drew ?_ | refine blk_alloc ?_ _)); exact BK117.out⟩, ⟨tb⟩⟩
  case rest =>
    clear HC2
    try clear p2
    try clear c3
    try clear c4
    try clear c4b0
    try clear c4b1
    try clear hcz5_0
    try clear hcz5_1
    try clear hcz6_0
    try clear hcz6_1
    try clear hfz5_0
    try clear hfz5_1
    try clear hfz6_0
    try clear hfz6_1
    obtain ⟨kq, x16_1, rfl, HA, HJ1, BK117, HB⟩ := hcut
    cases kq with
    | zero => exact absurd HA.out (by simp [tithebarnlaw13_VersionPrint.j0])
    | succ kj1 =>
      have H := HA.out
      clear HA
      simp only [tithebarnlaw13_VersionPrint.j0] at H
      by_cases c7 : x16_1 = true
      · subst c7
        have H1 : ((tithebarnlaw13_works.f).bind fun t118 => (some t118)) = some r := by rw [if_pos rfl] at H; exact H
        clear H
        have H := H1
        clear H1
        replace H := Option.bind_eq_some_iff.mp H
        obtain ⟨t118, A80, H⟩ := H
        replace H : (some t118) = some r := H
        have A8 := Aside0.mk A80
        clear A80
        obtain rfl := Option.some.inj H
        go_wp2_with (first | ((with_reducible refine gate_callee (f := 11) rfl ?_); refine goesL_ (some 17) rfl rfl Tryz.func11 (by kernel_rfl) rfl #[] rfl (by (try simp only [List.map_toArray, List.map_cons, List.map_nil]); first | done | rfl | (simp only [List.length_drop, List.length_take]; rfl)) ?_; (with_reducible refine (tithebarnlaw13_works.calls  t118 _ ?side1 A8.out).mono ?_); (case side1 => exact VTabs.below HTabs.out tb); rintro e w9 ⟨rfl, hb⟩; refine ⟨_, rfl, ?_⟩; have n0_ := Aside0.mk (blk_below (g := gb117) (o := .cells #[.slice A0_0 l0_0.length c0_0, .string a0_1] 24 (0, 0)) tk hb); have n1_ := Aside0.mk (below_step tb hb); clear BK117; clear HB; have BK117 := n0_; have HB := n1_; clear n0_ n1_; (try clear hb); (try clear hb2); (try clear hk); (try clear hi)))
        go_ret
        exact ⟨by first | rfl | (simp [errW_none, errW_some] <;> rfl) | (simp [*, errW_none, errW_some] <;> rfl), tb⟩
      replace c7 := Bool.eq_false_iff.mpr c7
      subst c7
      have H1 : ((version_Print.f l0_0 a0_1).bind fun bt119 => ((tithebarnlaw13_plain.f l0_0 a0_1).bind fun bt121 => ((tithebarnref13_Print.f kj1 bt121.1 bt121.2).bind fun bt125 => (if bt119.1.toList = bt125.1.toList then (if bt119.2 = bt125.2 then ((tithebarnlaw13_works.f).bind fun t127 => (some t127)) else (some false)) else (some false))))) = some r := by rw [if_neg (show ¬ (false = true) by decide)] at H; exact H
      clear H
      have H := H1
      clear H1
      replace H := Option.bind_eq_some_iff.mp H
      obtain ⟨⟨t119, t120⟩, A100, H⟩ := H
      replace H : ((tithebarnlaw13_plain.f l0_0 a0_1).bind fun bt121 => ((tithebarnref13_Print.f kj1 bt121.1 bt121.2).bind fun bt125 => (if t119.toList = bt125.1.toList then (if t120 = bt125.2 then ((tithebarnlaw13_works.f).bind fun t127 => (some t127)) else (some false)) else (some false)))) = some r := H
      have A10 := Aside0.mk A100
      clear A100
      replace H := Option.bind_eq_some_iff.mp H
      obtain ⟨⟨t121, t124⟩, A110, H⟩ := H
      replace H : ((tithebarnref13_Print.f kj1 t121 t124).bind fun bt125 => (if t119.toList = bt125.1.toList then (if t120 = bt125.2 then ((tithebarnlaw13_works.f).bind fun t127 => (some t127)) else (some false)) else (some false))) = some r := H
      have A11 := Aside0.mk A110
      clear A110
      replace H := Option.bind_eq_some_iff.mp H
      obtain ⟨⟨t125, t126⟩, A120, H⟩ := H
      replace H : (if t119.toList = t125.toList then (if t120 = t126 then ((tithebarnlaw13_works.f).bind fun t127 => (some t127)) else (some false)) else (some false)) = some r := H
      have A12 := Aside0.mk A120
      clear A120
      by_cases c13 : t119.toList = t125.toList
      rotate_left
      · rw [if_neg c13] at H
        have c13b0 : (t119.toList == t125.toList) = false := beq_eq_false_iff_ne.mpr c13
        have c13b1 : (t119.toList != t125.toList) = true := bne_iff_ne.mpr c13
        exact absurd ((Option.some.inj H).trans HRT.out) (by decide)
      rw [if_pos c13] at H
      have c13b0 : (t119.toList == t125.toList) = true := beq_iff_eq.mpr c13
      have c13b1 : (t119.toList != t125.toList) = false := bne_eq_false_iff_eq.mpr c13
      clear c13
      by_cases c14 : t120 = t126
      rotate_left
      · rw [if_neg c14] at H
        have c14b0 : (t120 == t126) = false := beq_eq_false_iff_ne.mpr c14
        have c14b1 : (t120 != t126) = true := bne_iff_ne.mpr c14
        exact absurd ((Option.some.inj H).trans HRT.out) (by decide)
      rw [if_pos c14] at H
      have c14b0 : (t120 == t126) = true := beq_iff_eq.mpr c14
      have c14b1 : (t120 != t126) = false := bne_eq_false_iff_eq.mpr c14
      clear c14
      replace H := Option.bind_eq_some_iff.mp H
      obtain ⟨t127, A150, H⟩ := H
      replace H : (some t127) = some r := H
      have A15 := Aside0.mk A150
      clear A150
      obtain rfl := Option.some.inj H
      have hcz16_0 : wc.cell? ⟨gb117, 0, none⟩ = some (.slice A0_0 l0_0.length c0_0) := (blk_cell BK117.out 0).trans rfl
      have hcz16_1 : wc.cell? ⟨gb117, 1, none⟩ = some (.string a0_1) := (blk_cell BK117.out 1).trans rfl
      have hfz16_0 := blk_frozen BK117.out 0
      have hfz16_1 := blk_frozen BK117.out 1
      go_wp2_with (first | ((with_reducible refine gate_callee (f := 12) rfl ?_); refine goesL_ (some 20) rfl rfl Tryz.func12 (by kernel_rfl) rfl #[.agg #[.slice A0_0 l0_0.length c0_0, .string a0_1]] rfl (by (try simp only [List.map_toArray, List.map_cons, List.map_nil]); first | done | rfl | (simp only [List.length_drop, List.length_take]; rfl)) ?_; (with_reducible refine (version_Print.calls _ _ l0_0 a0_1 t119 t120 _ ?side1 ?side2 ?side3 A10.out).mono ?_); (case side1 => repeat (first | exact (Kd.C_below HR0_0.out HB.out) | (with_reducible refine Kd.C_alloc ?_ _) | (with_reducible refine Kd.C_drewN ?_ _) | (with_reducible refine Kd.C_drew ?_))); (case side2 => exact HC0_0.out); (case side3 => exact VTabs.below HTabs.out tb); rintro e w17 ⟨rfl, hb⟩; refine ⟨_, rfl, ?_⟩; have n0_ := Aside0.mk (blk_below (g := gb117) (o := .cells #[.slice A0_0 l0_0.length c0_0, .string a0_1] 24 (0, 0)) tk hb); have n1_ := Aside0.mk (below_step tb hb); clear BK117; clear HB; have BK117 := n0_; have HB := n1_; clear n0_ n1_; (try clear hb); (try clear hb2); (try clear hk); (try clear hi); have hcz18_0 : w17.cell? ⟨gb117, 0, none⟩ = some (.slice A0_0 l0_0.length c0_0) := (blk_cell BK117.out 0).trans rfl; have hcz18_1 : w17.cell? ⟨gb117, 1, none⟩ = some (.string a0_1) := (blk_cell BK117.out 1).trans rfl; have hfz18_0 := blk_frozen BK117.out 0; have hfz18_1 := blk_frozen BK117.out 1) | ((with_reducible refine gate_callee (f := 14) rfl ?_); refine goesL_ (some 25) rfl rfl Tryz.func14 (by kernel_rfl) rfl #[.agg #[.slice A0_0 l0_0.length c0_0, .string a0_1]] rfl (by (try simp only [List.map_toArray, List.map_cons, List.map_nil]); first | done | rfl | (simp only [List.length_drop, List.length_take]; rfl)) ?_; (with_reducible refine (tithebarnlaw13_plain.calls (fun k_ => k_ < w.heap.size) _ _ l0_0 a0_1 t121 t124 _ ?side1 A11.out).mono ?_); (case side1 => exact Kd.V_mk HC0_0.out (Kd.F_below (Kd.C_F (Kd.heap_int .i64) HR0_0.out) tb)); rintro e w19 ⟨v122, rfl, ho0, hb⟩; refine ⟨_, rfl, ?_⟩; have n0_ := Aside0.mk (Kd.V_lower (Kd.V_mono (ok' := fun k_ => k_ ≠ gb117) ho0 (fun k_ hk_ => Or.elim hk_ (fun hs_ => fun e_ => Nat.not_le.2 hs_ (by rw [e_]; exact GW117.out)) (fun hn_ => (Kd.freshB (g := gb117) (o := .cells #[.slice A0_0 l0_0.length c0_0, .string a0_1] 24 (0, 0)) tk k_ hn_)))) (below_size tb)); have n1_ := Aside0.mk (blk_below (g := gb117) (o := .cells #[.slice A0_0 l0_0.length c0_0, .string a0_1] 24 (0, 0)) tk hb); have n2_ := Aside0.mk (below_step tb hb); clear BK117; clear HB; have HO123 := n0_; have BK117 := n1_; have HB := n2_; clear n0_ n1_ n2_; (try clear hb); (try clear hb2); (try clear hk); (try clear hi); (try clear ho0); obtain ⟨Ao20, co20, eo20⟩ := Kd.V_slice HO123.out; subst eo20) | ((with_reducible refine gate_callee (f := 13) rfl ?_); refine goesL_ (some 26) rfl rfl Tryz.func13 (by kernel_rfl) rfl #[.agg #[.slice Ao20 t121.length co20, .string t124]] rfl (by (try simp only [List.map_toArray, List.map_cons, List.map_nil]); first | done | rfl | (simp only [List.length_drop, List.length_take]; rfl)) ?_; (with_reducible refine (tithebarnref13_Print.calls kj1 _ _ t121 t124 t125 t126 _ ?side1 ?side2 A12.out).mono ?_); (case side1 => repeat (first | exact (Kd.V_reads' HO123.out).2.2 | (with_reducible refine Kd.C_alloc ?_ _) | (with_reducible refine Kd.C_drewN ?_ _) | (with_reducible refine Kd.C_drew ?_))); (case side2 => exact (Kd.V_reads' HO123.out).2.1); rintro e w21 ⟨rfl, hb⟩; refine ⟨_, rfl, ?_⟩; have n0_ := Aside0.mk (Kd.V_below (by (with_reducible repeat (first | apply Kd.V_alloc | apply Kd.V_drewN | apply Kd.V_drew)); exact HO123.out) hb); have n1_ := Aside0.mk (blk_below (g := gb117) (o := .cells #[.slice A0_0 l0_0.length c0_0, .string a0_1] 24 (0, 0)) tk hb); have n2_ := Aside0.mk (below_step tb hb); clear HO123; clear BK117; clear HB; have HO123 := n0_; have BK117 := n1_; have HB := n2_; clear n0_ n1_ n2_; (try clear hb); (try clear hb2); (try clear hk); (try clear hi)) | (go_at_call 11; (with_reducible refine (tithebarnlaw13_works.calls  t127 _ ?side1 A15.out).mono ?_); (case side1 => exact VTabs.below HTabs.out tb); rintro e w22 ⟨rfl, hb⟩; have n0_ := Aside0.mk (Kd.V_below (by (with_reducible repeat (first | apply Kd.V_alloc | apply Kd.V_drewN | apply Kd.V_drew)); exact HO123.out) hb); have n1_ := Aside0.mk (blk_below (g := gb117) (o := .cells #[.slice A0_0 l0_0.length c0_0, .string a0_1] 24 (0, 0)) tk hb); have n2_ := Aside0.mk (below_step tb hb); clear HO123; clear BK117; clear HB; have HO123 := n0_; have BK117 := n1_; have HB := n2_; clear n0_ n1_ n2_; (try clear hb); (try clear hb2); (try clear hk); (try clear hi)))
      go_ret
      exact ⟨by first | rfl | (simp [errW_none, errW_some] <;> rfl) | (simp [*, errW_none, errW_some] <;> rfl), tb⟩
end Go.Proofs.YtnbmdecehlljcaaGreatDoor.PVer
