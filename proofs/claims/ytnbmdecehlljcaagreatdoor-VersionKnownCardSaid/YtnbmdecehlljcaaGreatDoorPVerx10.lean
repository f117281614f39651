-- Laid by a program of this session (wip/tools/pgiven.py) out of the seat's translation. Lean checks it.
import Derived.Test.YtnbmdecehlljcaaGreatDoorPVerx0
import Derived.Test.YtnbmdecehlljcaaGreatDoorPVerx8
namespace Go.Proofs.YtnbmdecehlljcaaGreatDoor.PVer
open Go.RowKit Go.Proofs.YtnbmdecehlljcaaGreatDoorW.PrintWords Go.Proofs.YtnbmdecehlljcaaGreatDoorW.PrintLast Go.Proofs.YtnbmdecehlljcaaGreatDoorW.PrintMore
attribute [local go_sem] max2_int min2_int max_two min_two max_three min_three max_four min_four   -- for this text's walks alone
set_option linter.unusedVariables false
set_option linter.unusedSimpArgs false

attribute [local go_sem] isSome_setCellV
/-! ### tithebarnlaw13_VersionBack: function 17 -/
mutual
def tithebarnlaw13_VersionBack.j0 : Nat → ByteArray → Bool → List Int → ByteArray → Option (Bool)
  | 0, _, _, _, _ => none
  | k + 1, x0, x27, x154000, x154001 => if x27 = true then ((tithebarnlaw13_works.f).bind fun t154 => (some t154)) else ((version_Parse.f x0).bind fun bt155 => (if bt155.2.2 = 0 then ((version_Print.f bt155.1 bt155.2.1).bind fun bt161 => (if bt161.2 = 0 then (if bt161.1.toList = x0.toList then (tithebarnlaw13_VersionBack.j1 k x154000 x154001) else (some false)) else (some false))) else (tithebarnlaw13_VersionBack.j1 k x154000 x154001)))
def tithebarnlaw13_VersionBack.j1 : Nat → List Int → ByteArray → Option (Bool)
  | 0, _, _ => none
  | k + 1, x154000, x154001 => (version_Print.f x154000 x154001).bind fun bt163 => (if bt163.2 = 0 then ((version_Parse.f bt163.1).bind fun bt166 => (if bt166.2.2 = 0 then ((version_Compare.f bt166.1 bt166.2.1 x154000 x154001).bind fun t172 => (if t172 = 0 then ((tithebarnkit_SameInts.f k bt166.1 x154000).bind fun t173 => (if t173 = true then (if bt166.2.1.toList = x154001.toList then ((tithebarnlaw13_works.f).bind fun t174 => (some t174)) else (some false)) else (some false))) else (some false))) else (some false))) else (if bt163.1.toList = ([] : List UInt8) then ((tithebarnlaw13_works.f).bind fun t165 => (some t165)) else (some false)))
end
def tithebarnlaw13_VersionBack.f (k : Nat) (a0 : ByteArray) (l1_0 : List Int) (a1_1 : ByteArray) : Option (Bool) := if (a0.size : Int) > 500 then (tithebarnlaw13_VersionBack.j0 k a0 true l1_0 a1_1) else (if (l1_0.length : Int) > 100 then (tithebarnlaw13_VersionBack.j0 k a0 true l1_0 a1_1) else (tithebarnlaw13_VersionBack.j0 k a0 (decide ((a1_1.size : Int) > 100)) l1_0 a1_1))
theorem tithebarnlaw13_VersionBack.mono_l : ∀ k, (∀ y0 y1 y2 y3, LeO (tithebarnlaw13_VersionBack.j0 k y0 y1 y2 y3) (tithebarnlaw13_VersionBack.j0 (k + 1) y0 y1 y2 y3)) ∧ (∀ y0 y1, LeO (tithebarnlaw13_VersionBack.j1 k y0 y1) (tithebarnlaw13_VersionBack.j1 (k + 1) y0 y1))
  | 0 => ⟨fun _ _ _ _ r h => by simp [tithebarnlaw13_VersionBack.j0] at h, fun _ _ r h => by simp [tithebarnlaw13_VersionBack.j1] at h⟩
  | k + 1 => by
    obtain ⟨ih0, ih1⟩ := tithebarnlaw13_VersionBack.mono_l k
    refine ⟨?_, ?_⟩
    · intro y0 y1 y2 y3
      unfold tithebarnlaw13_VersionBack.j0
      repeat' first
      | (with_reducible exact ih0 _ _ _ _)
      | (with_reducible exact ih1 _ _)
      | (with_reducible exact tithebarnkit_SameInts.mono _ _ _)
      | (with_reducible exact LeO.refl _)
      | (with_reducible exact LeO.none _)
      | (with_reducible refine LeO.ite ?_ ?_)
      | (with_reducible refine LeO.bind ?_ (fun _ => ?_))
      | exact ih0 _ _ _ _
      | exact ih1 _ _
      | exact tithebarnkit_SameInts.mono _ _ _
      | exact LeO.none _
      | refine LeO.ite ?_ ?_
      | refine LeO.bind ?_ (fun _ => ?_)
    · intro y0 y1
      unfold tithebarnlaw13_VersionBack.j1
      repeat' first
      | (with_reducible exact ih0 _ _ _ _)
      | (with_reducible exact ih1 _ _)
      | (with_reducible exact tithebarnkit_SameInts.mono _ _ _)
      | (with_reducible exact LeO.refl _)
      | (with_reducible exact LeO.none _)
      | (with_reducible refine LeO.ite ?_ ?_)
      | (with_reducible refine LeO.bind ?_ (fun _ => ?_))
      | exact ih0 _ _ _ _
      | exact ih1 _ _
      | exact tithebarnkit_SameInts.mono _ _ _
      | exact LeO.none _
      | refine LeO.ite ?_ ?_
      | refine LeO.bind ?_ (fun _ => ?_)
theorem tithebarnlaw13_VersionBack.mono : ∀ a0 a1 a2 k, LeO (tithebarnlaw13_VersionBack.f k a0 a1 a2) (tithebarnlaw13_VersionBack.f (k + 1) a0 a1 a2) := by
  intro a0 a1 a2 k
  obtain ⟨ih0, ih1⟩ := tithebarnlaw13_VersionBack.mono_l k
  unfold tithebarnlaw13_VersionBack.f
  repeat' first
      | (with_reducible exact ih0 _ _ _ _)
      | (with_reducible exact ih1 _ _)
      | (with_reducible exact tithebarnkit_SameInts.mono _ _ _)
      | (with_reducible exact LeO.refl _)
      | (with_reducible exact LeO.none _)
      | (with_reducible refine LeO.ite ?_ ?_)
      | (with_reducible refine LeO.bind ?_ (fun _ => ?_))
      | exact ih0 _ _ _ _
      | exact ih1 _ _
      | exact tithebarnkit_SameInts.mono _ _ _
      | exact LeO.none _
      | refine LeO.ite ?_ ?_
      | refine LeO.bind ?_ (fun _ => ?_)
set_option maxHeartbeats 8000000 in
set_option maxRecDepth 100000 in
theorem tithebarnlaw13_VersionBack.calls (k : Nat) (a0 : ByteArray) (A1_0 : Option Addr) (c1_0 : Nat) (l1_0 : List Int) (a1_1 : ByteArray) (r : Bool) (w : World) (hr1_0 : Kd.C (Kd.int .i64) w A1_0 l1_0.length l1_0) (hc1_0 : l1_0.length ≤ c1_0) (hT : VTabs w) (h : tithebarnlaw13_VersionBack.f k a0 l1_0 a1_1 = some r) (hr : r = true) :
    Calls Tryz.prog 17 #[.string a0, .agg #[.slice A1_0 l1_0.length c1_0, .string a1_1]] w fun e w' => e = .returned (.bool r) ∧ Below w.heap.size w w' := by
  have HRT := Aside0.mk hr
  clear hr
  have hu24 := Tryz.underlying24
  have HR1_0 := Aside0.mk hr1_0
  have HC1_0 := Aside0.mk hc1_0
  clear hr1_0 hc1_0
  have HB := Aside0.mk (Below.refl w.heap.size w)
  have HTabs := Aside0.mk hT
  clear hT
  have H : (if (a0.size : Int) > 500 then (tithebarnlaw13_VersionBack.j0 k a0 true l1_0 a1_1) else (if (l1_0.length : Int) > 100 then (tithebarnlaw13_VersionBack.j0 k a0 true l1_0 a1_1) else (tithebarnlaw13_VersionBack.j0 k a0 (decide ((a1_1.size : Int) > 100)) l1_0 a1_1))) = some r := h
  clear h
  have HC3 := Aside0.mk H
  clear H
  go_enter Tryz.func17, Tryz.ntmps17
  go_upto_region 1 with (first | ((with_reducible refine gate_dst (N := 3) rfl ?_); (try (refine gate_guard (by rfl) ?_; dsimp only)); refine box_event ?hg (N := 3) ?hd (cs := #[.slice A1_0 l1_0.length c1_0, .string a1_1]) (t := 24) ?hr ?_; (case hd => rfl); (case hg => rfl); (case hr => first | (go_simp; done) | (go_simp; rfl)); intro gb153 hg w4 hbox hb; have n0_ := Aside0.mk (below_step tb hb); have n1_ := Aside0.mk (hbox); have n2_ := Aside0.mk ((by rw [hg]; exact (below_size tb) : w.heap.size ≤ gb153)); have n3_ := Aside0.mk ((by rw [hg]; exact (below_size tb) : w.heap.size ≤ gb153)); clear HB; have HB := n0_; have BK153 := n1_; have GW153 := n2_; have GE153 := n3_; clear n0_ n1_ n2_ n3_; clear hb hbox hg))
  (try simp only [Act.put, List.setIfInBounds_toArray, List.set_cons_zero, List.set_cons_succ])
  go_cut [27] (fun v27 wc => ∃ (kq : Nat) (x27_2 : Bool), v27 = .bool x27_2 ∧ Aside0 (tithebarnlaw13_VersionBack.j0 kq a0 x27_2 l1_0 a1_1 = some r) ∧ Aside0 (kq ≤ k) ∧ Aside0 (wc.heap[gb153]? = some (.cells #[(.slice A1_0 l1_0.length c1_0), .string a1_1] 24 (0, 0))) ∧ Aside0 (Below w.heap.size w wc))
  case first =>
    have H := HC3.out
    clear HC3
    by_cases c5 : (a0.size : Int) > 500
    · rw [if_pos c5] at H
      have c5b0 : decide (500 < (a0.size : Int)) = true := decide_eq_true c5
      have c5b1 : decide (500 < a0.size) = true := decide_eq_true (by omega)
      clear c5
      (first | rw [c5b0] | (simp only [i64_w, i32_w]; rw [c5b0]) | skip)
      have H' := Aside0.mk H
      clear H
      go_wp2
      go_meet
      case rel => exact ⟨_, (true), (by first | rfl | (simp; done) | (simp [*]; done)), H', ⟨by first | omega | exact Nat.le_refl _⟩, ⟨by (with_reducible repeat (first | refine blk_drewN ?_ _ | refine blk_drew ?_ | refine blk_alloc ?_ _)); exact BK153.out⟩, ⟨tb⟩⟩
    rw [if_neg c5] at H
    have c5b0 : decide (500 < (a0.size : Int)) = false := decide_eq_false c5
    have c5b1 : decide (500 < a0.size) = false := decide_eq_false (by omega)
    clear c5
    (first | rw [c5b0] | (simp only [i64_w, i32_w]; rw [c5b0]) | skip)
    by_cases c6 : (l1_0.length : Int) > 100
    · rw [if_pos c6] at H
      have c6b0 : decide (100 < (l1_0.length : Int)) = true := decide_eq_true c6
      have c6b1 : decide (100 < l1_0.length) = true := decide_eq_true (by omega)
      clear c6
      have H' := Aside0.mk H
      clear H
      have hcz7_0 : w4.cell? ⟨gb153, 0, none⟩ = some (.slice A1_0 l1_0.length c1_0) := (blk_cell BK153.out 0).trans rfl
      have hcz7_1 : w4.cell? ⟨gb153, 1, none⟩ = some (.string a1_1) := (blk_cell BK153.out 1).trans rfl
      have hfz7_0 := blk_frozen BK153.out 0
      have hfz7_1 := blk_frozen BK153.out 1
      go_wp2
      go_meet
      case rel => exact ⟨_, (true), (by first | rfl | (simp; done) | (simp [*]; done)), H', ⟨by first | omega | exact Nat.le_refl _⟩, ⟨by (with_reducible repeat (first | refine blk_drewN ?_ _ | refine blk_drew ?_ | refine blk_alloc ?_ _)); exact BK153.out⟩, ⟨tb⟩⟩
    rw [if_neg c6] at H
    have c6b0 : decide (100 < (l1_0.length : Int)) = false := decide_eq_false c6
    have c6b1 : decide (100 < l1_0.length) = false := decide_eq_false (by omega)
    clear c6
    have H' := Aside0.mk H
    clear H
    have hcz8_0 : w4.cell? ⟨gb153, 0, none⟩ = some (.slice A1_0 l1_0.length c1_0) := (blk_cell BK153.out 0).trans rfl
    have hcz8_1 : w4.cell? ⟨gb153, 1, none⟩ = some (.string a1_1) := (blk_cell BK153.out 1).trans rfl
    have hfz8_0 := blk_frozen BK153.out 0
    have hfz8_1 := blk_frozen BK153.out 1
    go_wp2
    go_meet
    case rel => exact ⟨_, (decide ((a1_1.size : Int) > 100)), (by first | rfl | (simp; done) | (simp [*]; done)), H', ⟨by first | omega | exact Nat.le_refl _⟩, ⟨by (with_reducible repeat (first | refine blk_drewN ?_ _ | refine blk_drew ?_ | refine blk_alloc ?_ _)); exact BK153.out⟩, ⟨tb⟩⟩
  case rest =>
    clear HC3
    try clear c1
    try clear p2
    try clear c5
    try clear c5b0
    try clear c5b1
    try clear c6
    try clear c6b0
    try clear c6b1
    try clear hcz7_0
    try clear hcz7_1
    try clear hcz8_0
    try clear hcz8_1
    try clear hfz7_0
    try clear hfz7_1
    try clear hfz8_0
    try clear hfz8_1
    obtain ⟨kq, x27_2, rfl, HA, HJ2, BK153, HB⟩ := hcut
    cases kq with
    | zero => exact absurd HA.out (by simp [tithebarnlaw13_VersionBack.j0])
    | succ kj2 =>
      have H := HA.out
      clear HA
      simp only [tithebarnlaw13_VersionBack.j0] at H
      by_cases c9 : x27_2 = true
      · subst c9
        have H1 : ((tithebarnlaw13_works.f).bind fun t154 => (some t154)) = some r := by rw [if_pos rfl] at H; exact H
        clear H
        have H := H1
        clear H1
        replace H := Option.bind_eq_some_iff.mp H
        obtain ⟨t154, A100, H⟩ := H
        replace H : (some t154) = some r := H
        have A10 := Aside0.mk A100
        clear A100
        obtain rfl := Option.some.inj H
        go_wp2_with (first | ((with_reducible refine gate_callee (f := 11) rfl ?_); refine goesL_ (some 28) rfl rfl Tryz.func11 (by kernel_rfl) rfl #[] rfl (by (try simp only [List.map_toArray, List.map_cons, List.map_nil]); first | done | rfl | (simp only [List.length_drop, List.length_take]; rfl)) ?_; (with_reducible refine (tithebarnlaw13_works.calls  t154 _ ?side1 A10.out).mono ?_); (case side1 => exact VTabs.below HTabs.out tb); rintro e w11 ⟨rfl, hb⟩; refine ⟨_, rfl, ?_⟩; have n0_ := Aside0.mk (blk_below (g := gb153) (o := .cells #[.slice A1_0 l1_0.length c1_0, .string a1_1] 24 (0, 0)) tk hb); have n1_ := Aside0.mk (below_step tb hb); clear BK153; clear HB; have BK153 := n0_; have HB := n1_; clear n0_ n1_; (try clear hb); (try clear hb2); (try clear hk); (try clear hi)))
        go_ret
        exact ⟨by first | rfl | (simp [errW_none, errW_some] <;> rfl) | (simp [*, errW_none, errW_some] <;> rfl), tb⟩
      replace c9 := Bool.eq_false_iff.mpr c9
      subst c9
      have H1 : ((version_Parse.f a0).bind fun bt155 => (if bt155.2.2 = 0 then ((version_Print.f bt155.1 bt155.2.1).bind fun bt161 => (if bt161.2 = 0 then (if bt161.1.toList = a0.toList then (tithebarnlaw13_VersionBack.j1 kj2 l1_0 a1_1) else (some false)) else (some false))) else (tithebarnlaw13_VersionBack.j1 kj2 l1_0 a1_1))) = some r := by rw [if_neg (show ¬ (false = true) by decide)] at H; exact H
      clear H
      have H := H1
      clear H1
      replace H := Option.bind_eq_some_iff.mp H
      obtain ⟨⟨t155, t158, t159⟩, A120, H⟩ := H
      replace H : (if t159 = 0 then ((version_Print.f t155 t158).bind fun bt161 => (if bt161.2 = 0 then (if bt161.1.toList = a0.toList then (tithebarnlaw13_VersionBack.j1 kj2 l1_0 a1_1) else (some false)) else (some false))) else (tithebarnlaw13_VersionBack.j1 kj2 l1_0 a1_1)) = some r := H
      have A12 := Aside0.mk A120
      clear A120
      have HC13 := Aside0.mk H
      clear H
      go_upto_if 35 with (first | ((with_reducible refine gate_callee (f := 35) rfl ?_); refine goesL_ (some 31) rfl rfl Tryz.func35 (by kernel_rfl) rfl #[.string a0] rfl (by (try simp only [List.map_toArray, List.map_cons, List.map_nil]); first | done | rfl | (simp only [List.length_drop, List.length_take]; rfl)) ?_; (with_reducible refine (version_Parse.calls a0 t155 t158 t159 _ ?side1 A12.out).mono ?_); (case side1 => exact VTabs.below HTabs.out tb); rintro e w14 ⟨v156, rfl, ho0, hb⟩; refine ⟨_, rfl, ?_⟩; have n0_ := Aside0.mk (Kd.R_lower ho0 (below_size tb)); have n1_ := Aside0.mk (blk_below (g := gb153) (o := .cells #[.slice A1_0 l1_0.length c1_0, .string a1_1] 24 (0, 0)) tk hb); have n2_ := Aside0.mk (below_step tb hb); clear BK153; clear HB; have HO157 := n0_; have BK153 := n1_; have HB := n2_; clear n0_ n1_ n2_; (try clear hb); (try clear hb2); (try clear hk); (try clear hi); (try clear ho0)) | ((with_reducible refine gate_dst (N := 5) rfl ?_); (try (refine gate_guard (by rfl) ?_; dsimp only)); refine box_event ?hg (N := 5) ?hd (cs := #[.slice none 0 0, .string (⟨#[]⟩ : ByteArray)]) (t := 24) ?hr ?_; (case hd => rfl); (case hg => rfl); (case hr => first | (go_simp; done) | (go_simp; rfl)); intro gb160 hg w15 hbox hb; have n0_ := Aside0.mk (Kd.R_below (by (with_reducible repeat (first | apply Kd.R_alloc | apply Kd.R_drewN | apply Kd.R_drew)); exact HO157.out) hb); have n1_ := Aside0.mk (blk_below (g := gb153) (o := .cells #[.slice A1_0 l1_0.length c1_0, .string a1_1] 24 (0, 0)) tk hb); have n2_ := Aside0.mk (below_step tb hb); have n3_ := Aside0.mk (hbox); have n4_ := Aside0.mk ((by rw [hg]; exact (below_size tb) : w.heap.size ≤ gb160)); have n5_ := Aside0.mk ((by rw [hg]; exact (below_size tb) : w.heap.size ≤ gb160)); have n6_ := Aside0.mk ((by rw [hg]; exact Nat.ne_of_lt (blk_lt (g := gb153) (o := .cells #[.slice A1_0 l1_0.length c1_0, .string a1_1] 24 (0, 0)) tk) : gb153 ≠ gb160)); have n7_ := Aside0.mk ((by rw [hg]; exact Nat.ne_of_gt (blk_lt (g := gb153) (o := .cells #[.slice A1_0 l1_0.length c1_0, .string a1_1] 24 (0, 0)) tk) : gb160 ≠ gb153)); clear HO157; clear BK153; clear HB; have HO157 := n0_; have BK153 := n1_; have HB := n2_; have BK160 := n3_; have GW160 := n4_; have GE160 := n5_; have NB153_160 := n6_; have NB160_153 := n7_; clear n0_ n1_ n2_ n3_ n4_ n5_ n6_ n7_; clear hb hbox hg; obtain ⟨Ao16, co16, eo16⟩ := Kd.R_slice HO157.out; subst eo16; have hnb17 := NB160_153.out; have hnc17 := NB153_160.out; have hcz18_0 : w15.cell? ⟨gb160, 0, none⟩ = some (.slice none 0 0) := (blk_cell BK160.out 0).trans rfl; have hcz18_1 : w15.cell? ⟨gb160, 1, none⟩ = some (.string (⟨#[]⟩ : ByteArray)) := (blk_cell BK160.out 1).trans rfl; have hfz18_0 := blk_frozen BK160.out 0; have hfz18_1 := blk_frozen BK160.out 1))
      (try simp only [Act.put, List.setIfInBounds_toArray, List.set_cons_zero, List.set_cons_succ])
      go_cut [] (fun wc => ∃ (kq : Nat), Aside0 (tithebarnlaw13_VersionBack.j1 kq l1_0 a1_1 = some r) ∧ Aside0 (kq ≤ kj2) ∧ Aside0 (Kd.R (Kd.int .i64) 3 wc w.heap.size (fun _ => True) (.slice Ao16 t155.length co16) t155) ∧ Aside0 (wc.heap[gb153]? = some (.cells #[(.slice A1_0 l1_0.length c1_0), .string a1_1] 24 (0, 0))) ∧ Aside0 (wc.heap[gb160]? = some (.cells #[(.slice Ao16 t155.length co16), .string t158] 24 (0, 0))) ∧ Aside0 (Below w.heap.size w wc))
      case first =>
        have H := HC13.out
        clear HC13
        by_cases c19 : t159 = 0
        rotate_left
        · rw [if_neg c19] at H
          have c19b0 : (t159 == 0) = false := beq_eq_false_iff_ne.mpr c19
          have c19b1 : (t159 != 0) = true := bne_iff_ne.mpr c19
          (first | rw [c19b0] | (simp only [i64_w, i32_w]; rw [c19b0]) | skip)
          have H' := Aside0.mk H
          clear H
          go_wp2
          go_meet
          case rel => exact ⟨_, H', ⟨by have := HJ2.out; first | omega | exact Nat.le_refl _⟩, ⟨by (with_reducible repeat (first | apply Kd.R_alloc | apply Kd.R_drewN | apply Kd.R_drew)); exact Kd.R_mono (Kd.R_far (p := ⟨gb160, 1, none⟩) (Kd.R_far (p := ⟨gb160, 0, none⟩) (Kd.R_types HO157.out BK160.out (by decide)) (fun _ hk => hk.2) (.slice Ao16 t155.length co16)) (fun _ hk => hk.2) (.string t158)) (fun _ hk => trivial)⟩, ⟨by (with_reducible repeat (first | refine blk_drewN ?_ _ | refine blk_drew ?_ | refine blk_alloc ?_ _)); refine blk_far ?_ NB153_160.out _; (with_reducible repeat (first | refine blk_drewN ?_ _ | refine blk_drew ?_ | refine blk_alloc ?_ _)); refine blk_far ?_ NB153_160.out _; (with_reducible repeat (first | refine blk_drewN ?_ _ | refine blk_drew ?_ | refine blk_alloc ?_ _)); exact BK153.out⟩, ⟨by (with_reducible repeat (first | refine blk_drewN ?_ _ | refine blk_drew ?_ | refine blk_alloc ?_ _)); refine blk_put (cs := #[.slice Ao16 t155.length co16, .string (⟨#[]⟩ : ByteArray)]) ?_ 1 _ rfl; (with_reducible repeat (first | refine blk_drewN ?_ _ | refine blk_drew ?_ | refine blk_alloc ?_ _)); refine blk_put (cs := #[.slice none 0 0, .string (⟨#[]⟩ : ByteArray)]) ?_ 0 _ rfl; (with_reducible repeat (first | refine blk_drewN ?_ _ | refine blk_drew ?_ | refine blk_alloc ?_ _)); exact BK160.out⟩, ⟨tb⟩⟩
        rw [if_pos c19] at H
        have c19b0 : (t159 == 0) = true := beq_iff_eq.mpr c19
        have c19b1 : (t159 != 0) = false := bne_eq_false_iff_eq.mpr c19
        clear c19
        (first | rw [c19b0] | (simp only [i64_w, i32_w]; rw [c19b0]) | skip)
        replace H := Option.bind_eq_some_iff.mp H
        obtain ⟨⟨t161, t162⟩, A200, H⟩ := H
        replace H : (if t162 = 0 then (if t161.toList = a0.toList then (tithebarnlaw13_VersionBack.j1 kj2 l1_0 a1_1) else (some false)) else (some false)) = some r := H
        have A20 := Aside0.mk A200
        clear A200
        by_cases c21 : t162 = 0
        rotate_left
        · rw [if_neg c21] at H
          have c21b0 : (t162 == 0) = false := beq_eq_false_iff_ne.mpr c21
          have c21b1 : (t162 != 0) = true := bne_iff_ne.mpr c21
          exact absurd ((Option.some.inj H).trans HRT.out) (by decide)
        rw [if_pos c21] at H
        have c21b0 : (t162 == 0) = true := beq_iff_eq.mpr c21
        have c21b1 : (t162 != 0) = false := bne_eq_false_iff_eq.mpr c21
        clear c21
        by_cases c22 : t161.toList = a0.toList
        rotate_left
        · rw [if_neg c22] at H
          have c22b0 : (t161.toList == a0.toList) = false := beq_eq_false_iff_ne.mpr c22
          have c22b1 : (t161.toList != a0.toList) = true := bne_iff_ne.mpr c22
          exact absurd ((Option.some.inj H).trans HRT.out) (by decide)
        rw [if_pos c22] at H
        have c22b0 : (t161.toList == a0.toList) = true := beq_iff_eq.mpr c22
        have c22b1 : (t161.toList != a0.toList) = false := bne_eq_false_iff_eq.mpr c22
        clear c22
        have H' := Aside0.mk H
        clear H
        have hnb23 := NB160_153.out
        have hnc23 := NB153_160.out
        have hcz24_0 : w15.cell? ⟨gb160, 0, none⟩ = some (.slice none 0 0) := (blk_cell BK160.out 0).trans rfl
        have hcz24_1 : w15.cell? ⟨gb160, 1, none⟩ = some (.string (⟨#[]⟩ : ByteArray)) := (blk_cell BK160.out 1).trans rfl
        have hfz24_0 := blk_frozen BK160.out 0
        have hfz24_1 := blk_frozen BK160.out 1
        go_wp2_with (first | ((with_reducible refine gate_callee (f := 12) rfl ?_); refine goesL_ (some 38) rfl rfl Tryz.func12 (by kernel_rfl) rfl #[.agg #[.slice Ao16 t155.length co16, .string t158]] rfl (by (try simp only [List.map_toArray, List.map_cons, List.map_nil]); first | done | rfl | (simp only [List.length_drop, List.length_take]; rfl)) ?_; (with_reducible refine (version_Print.calls _ _ t155 t158 t161 t162 _ ?side1 ?side2 ?side3 A20.out).mono ?_); (case side1 => refine (Kd.R_reads' (e := 3) (base := w.heap.size) (ok := fun k_ => True) (n := t155.length) (c := co16) ?_).2.2; exact (by (with_reducible repeat (first | apply Kd.R_alloc | apply Kd.R_drewN | apply Kd.R_drew)); exact (Kd.R_mono (Kd.R_far (p := ⟨gb160, 1, none⟩) (Kd.R_far (p := ⟨gb160, 0, none⟩) (Kd.R_types HO157.out BK160.out (by decide)) (fun _ hk => hk.2) (.slice Ao16 t155.length co16)) (fun _ hk => hk.2) (.string t158)) (fun _ h_ => h_.1)))); (case side2 => exact (Kd.R_reads' HO157.out).2.1); (case side3 => exact VTabs.below HTabs.out tb); rintro e w25 ⟨rfl, hb⟩; refine ⟨_, rfl, ?_⟩; have n0_ := Aside0.mk (Kd.R_below (by (with_reducible repeat (first | apply Kd.R_alloc | apply Kd.R_drewN | apply Kd.R_drew)); exact (Kd.R_mono (Kd.R_far (p := ⟨gb160, 1, none⟩) (Kd.R_far (p := ⟨gb160, 0, none⟩) (Kd.R_types HO157.out BK160.out (by decide)) (fun _ hk => hk.2) (.slice Ao16 t155.length co16)) (fun _ hk => hk.2) (.string t158)) (fun _ h_ => h_.1))) hb); have n1_ := Aside0.mk (blk_below (g := gb153) (o := .cells #[.slice A1_0 l1_0.length c1_0, .string a1_1] 24 (0, 0)) (by (with_reducible repeat (first | refine blk_drewN ?_ _ | refine blk_drew ?_ | refine blk_alloc ?_ _)); refine blk_far ?_ NB153_160.out _; (with_reducible repeat (first | refine blk_drewN ?_ _ | refine blk_drew ?_ | refine blk_alloc ?_ _)); refine blk_far ?_ NB153_160.out _; (with_reducible repeat (first | refine blk_drewN ?_ _ | refine blk_drew ?_ | refine blk_alloc ?_ _)); exact BK153.out) hb); have n2_ := Aside0.mk (blk_below (g := gb160) (o := .cells #[.slice Ao16 t155.length co16, .string t158] 24 (0, 0)) (by (with_reducible repeat (first | refine blk_drewN ?_ _ | refine blk_drew ?_ | refine blk_alloc ?_ _)); refine blk_put (cs := #[.slice Ao16 t155.length co16, .string (⟨#[]⟩ : ByteArray)]) ?_ 1 _ rfl; (with_reducible repeat (first | refine blk_drewN ?_ _ | refine blk_drew ?_ | refine blk_alloc ?_ _)); refine blk_put (cs := #[.slice none 0 0, .string (⟨#[]⟩ : ByteArray)]) ?_ 0 _ rfl; (with_reducible repeat (first | refine blk_drewN ?_ _ | refine blk_drew ?_ | refine blk_alloc ?_ _)); exact BK160.out) hb); have n3_ := Aside0.mk (below_step tb hb); clear HO157; clear BK153; clear BK160; clear HB; have HO157 := n0_; have BK153 := n1_; have BK160 := n2_; have HB := n3_; clear n0_ n1_ n2_ n3_; (try clear hb); (try clear hb2); (try clear hk); (try clear hi)))
        go_meet
        case rel => exact ⟨_, H', ⟨by have := HJ2.out; first | omega | exact Nat.le_refl _⟩, ⟨by (with_reducible repeat (first | apply Kd.R_alloc | apply Kd.R_drewN | apply Kd.R_drew)); exact HO157.out⟩, ⟨by (with_reducible repeat (first | refine blk_drewN ?_ _ | refine blk_drew ?_ | refine blk_alloc ?_ _)); exact BK153.out⟩, ⟨by (with_reducible repeat (first | refine blk_drewN ?_ _ | refine blk_drew ?_ | refine blk_alloc ?_ _)); exact BK160.out⟩, ⟨tb⟩⟩
      case rest =>
        clear HC13
        try clear c1
        try clear c2
        try clear p2
        try clear c3
        try clear c5
        try clear c5b0
        try clear c5b1
        try clear c6
        try clear c6b0
        try clear c6b1
        try clear c9
        try clear c11
        try clear c12
        try clear c17
        try clear c19
        try clear c19b0
        try clear c19b1
        try clear c21
        try clear c21b0
        try clear c21b1
        try clear c22
        try clear c22b0
        try clear c22b1
        try clear c23
        try clear c26
        try clear c29
        try clear hcz18_0
        try clear hcz18_1
        try clear hcz24_0
        try clear hcz24_1
        try clear hcz27_0
        try clear hcz27_1
        try clear hcz30_0
        try clear hcz30_1
        try clear hcz7_0
        try clear hcz7_1
        try clear hcz8_0
        try clear hcz8_1
        try clear hfz18_0
        try clear hfz18_1
        try clear hfz24_0
        try clear hfz24_1
        try clear hfz27_0
        try clear hfz27_1
        try clear hfz30_0
        try clear hfz30_1
        try clear hfz7_0
        try clear hfz7_1
        try clear hfz8_0
        try clear hfz8_1
        try clear p2
        obtain ⟨kq, HA, HJ12, HO_161000, BK153, BK160, HB⟩ := hcut
        cases kq with
        | zero => exact absurd HA.out (by simp [tithebarnlaw13_VersionBack.j1])
        | succ kj12 =>
          have H := HA.out
          clear HA
          simp only [tithebarnlaw13_VersionBack.j1] at H
          replace H := Option.bind_eq_some_iff.mp H
          obtain ⟨⟨t163, t164⟩, A320, H⟩ := H
          replace H : (if t164 = 0 then ((version_Parse.f t163).bind fun bt166 => (if bt166.2.2 = 0 then ((version_Compare.f bt166.1 bt166.2.1 l1_0 a1_1).bind fun t172 => (if t172 = 0 then ((tithebarnkit_SameInts.f kj12 bt166.1 l1_0).bind fun t173 => (if t173 = true then (if bt166.2.1.toList = a1_1.toList then ((tithebarnlaw13_works.f).bind fun t174 => (some t174)) else (some false)) else (some false))) else (some false))) else (some false))) else (if t163.toList = ([] : List UInt8) then ((tithebarnlaw13_works.f).bind fun t165 => (some t165)) else (some false))) = some r := H
          have A32 := Aside0.mk A320
          clear A320
          by_cases c33 : t164 = 0
          rotate_left
          · rw [if_neg c33] at H
            have c33b0 : (t164 == 0) = false := beq_eq_false_iff_ne.mpr c33
            have c33b1 : (t164 != 0) = true := bne_iff_ne.mpr c33
            by_cases c102 : t163.toList = ([] : List UInt8)
            rotate_left
            · rw [if_neg c102] at H
              have c102b0 : (t163.toList == ([] : List UInt8)) = false := beq_eq_false_iff_ne.mpr c102
              have c102b1 : (t163.toList != ([] : List UInt8)) = true := bne_iff_ne.mpr c102
              exact absurd ((Option.some.inj H).trans HRT.out) (by decide)
            rw [if_pos c102] at H
            have c102b0 : (t163.toList == ([] : List UInt8)) = true := beq_iff_eq.mpr c102
            have c102b1 : (t163.toList != ([] : List UInt8)) = false := bne_eq_false_iff_eq.mpr c102
            clear c102
            replace H := Option.bind_eq_some_iff.mp H
            obtain ⟨t165, A1030, H⟩ := H
            replace H : (some t165) = some r := H
            have A103 := Aside0.mk A1030
            clear A1030
            obtain rfl := Option.some.inj H
            have hnb104 := NB153_160.out
            have hnc104 := NB160_153.out
            have hcz105_0 : wc.cell? ⟨gb153, 0, none⟩ = some (.slice A1_0 l1_0.length c1_0) := (blk_cell BK153.out 0).trans rfl
            have hcz105_1 : wc.cell? ⟨gb153, 1, none⟩ = some (.string a1_1) := (blk_cell BK153.out 1).trans rfl
            have hfz105_0 := blk_frozen BK153.out 0
            have hfz105_1 := blk_frozen BK153.out 1
            go_wp2_with (first | ((with_reducible refine gate_callee (f := 12) rfl ?_); refine goesL_ (some 50) rfl rfl Tryz.func12 (by kernel_rfl) rfl #[.agg #[.slice A1_0 l1_0.length c1_0, .string a1_1]] rfl (by (try simp only [List.map_toArray, List.map_cons, List.map_nil]); first | done | rfl | (simp only [List.length_drop, List.length_take]; rfl)) ?_; (with_reducible refine (version_Print.calls _ _ l1_0 a1_1 t163 t164 _ ?side1 ?side2 ?side3 A32.out).mono ?_); (case side1 => repeat (first | exact (Kd.C_below HR1_0.out HB.out) | (with_reducible refine Kd.C_alloc ?_ _) | (with_reducible refine Kd.C_drewN ?_ _) | (with_reducible refine Kd.C_drew ?_))); (case side2 => exact HC1_0.out); (case side3 => exact VTabs.below HTabs.out tb); rintro e w106 ⟨rfl, hb⟩; refine ⟨_, rfl, ?_⟩; have n0_ := Aside0.mk (Kd.R_below (by (with_reducible repeat (first | apply Kd.R_alloc | apply Kd.R_drewN | apply Kd.R_drew)); exact HO_161000.out) hb); have n1_ := Aside0.mk (blk_below (g := gb153) (o := .cells #[.slice A1_0 l1_0.length c1_0, .string a1_1] 24 (0, 0)) tk hb); have n2_ := Aside0.mk (blk_below (g := gb160) (o := .cells #[.slice Ao16 t155.length co16, .string t158] 24 (0, 0)) tk hb); have n3_ := Aside0.mk (below_step tb hb); clear HO_161000; clear BK153; clear BK160; clear HB; have HO_161000 := n0_; have BK153 := n1_; have BK160 := n2_; have HB := n3_; clear n0_ n1_ n2_ n3_; (try clear hb); (try clear hb2); (try clear hk); (try clear hi)) | (go_at_call 11; (with_reducible refine (tithebarnlaw13_works.calls  t165 _ ?side1 A103.out).mono ?_); (case side1 => exact VTabs.below HTabs.out tb); rintro e w107 ⟨rfl, hb⟩; have n0_ := Aside0.mk (Kd.R_below (by (with_reducible repeat (first | apply Kd.R_alloc | apply Kd.R_drewN | apply Kd.R_drew)); exact HO_161000.out) hb); have n1_ := Aside0.mk (blk_below (g := gb153) (o := .cells #[.slice A1_0 l1_0.length c1_0, .string a1_1] 24 (0, 0)) tk hb); have n2_ := Aside0.mk (blk_below (g := gb160) (o := .cells #[.slice Ao16 t155.length co16, .string t158] 24 (0, 0)) tk hb); have n3_ := Aside0.mk (below_step tb hb); clear HO_161000; clear BK153; clear BK160; clear HB; have HO_161000 := n0_; have BK153 := n1_; have BK160 := n2_; have HB := n3_; clear n0_ n1_ n2_ n3_; (try clear hb); (try clear hb2); (try clear hk); (try clear hi)))
            go_ret
            exact ⟨by first | rfl | (simp [errW_none, errW_some] <;> rfl) | (simp [*, errW_none, errW_some] <;> rfl), tb⟩
          rw [if_pos c33] at H
          have c33b0 : (t164 == 0) = true := beq_iff_eq.mpr c33
          have c33b1 : (t164 != 0) = false := bne_eq_false_iff_eq.mpr c33
          clear c33
          replace H := Option.bind_eq_some_iff.mp H
          obtain ⟨⟨t166, t169, t170⟩, A340, H⟩ := H
          replace H : (if t170 = 0 then ((version_Compare.f t166 t169 l1_0 a1_1).bind fun t172 => (if t172 = 0 then ((tithebarnkit_SameInts.f kj12 t166 l1_0).bind fun t173 => (if t173 = true then (if t169.toList = a1_1.toList then ((tithebarnlaw13_works.f).bind fun t174 => (some t174)) else (some false)) else (some false))) else (some false))) else (some false)) = some r := H
          have A34 := Aside0.mk A340
          clear A340
          by_cases c35 : t170 = 0
          rotate_left
          · rw [if_neg c35] at H
            have c35b0 : (t170 == 0) = false := beq_eq_false_iff_ne.mpr c35
            have c35b1 : (t170 != 0) = true := bne_iff_ne.mpr c35
            exact absurd ((Option.some.inj H).trans HRT.out) (by decide)
          rw [if_pos c35] at H
          have c35b0 : (t170 == 0) = true := beq_iff_eq.mpr c35
          have c35b1 : (t170 != 0) = false := bne_eq_false_iff_eq.mpr c35
          clear c35
          replace H := Option.bind_eq_some_iff.mp H
          obtain ⟨t172, A360, H⟩ := H
          replace H : (if t172 = 0 then ((tithebarnkit_SameInts.f kj12 t166 l1_0).bind fun t173 => (if t173 = true then (if t169.toList = a1_1.toList then ((tithebarnlaw13_works.f).bind fun t174 => (some t174)) else (some false)) else (some false))) else (some false)) = some r := H
          have A36 := Aside0.mk A360
          clear A360
          by_cases c37 : t172 = 0
          rotate_left
          · rw [if_neg c37] at H
            have c37b0 : (t172 == 0) = false := beq_eq_false_iff_ne.mpr c37
            have c37b1 : (t172 != 0) = true := bne_iff_ne.mpr c37
            exact absurd ((Option.some.inj H).trans HRT.out) (by decide)
          rw [if_pos c37] at H
          have c37b0 : (t172 == 0) = true := beq_iff_eq.mpr c37
          have c37b1 : (t172 != 0) = false := bne_eq_false_iff_eq.mpr c37
          clear c37
          replace H := Option.bind_eq_some_iff.mp H
          obtain ⟨t173, A380, H⟩ := H
          replace H : (if t173 = true then (if t169.toList = a1_1.toList then ((tithebarnlaw13_works.f).bind fun t174 => (some t174)) else (some false)) else (some false)) = some r := H
          have A38 := Aside0.mk A380
          clear A380
          by_cases c39 : t173 = true
          rotate_left
          · replace c39 := Bool.eq_false_iff.mpr c39
            subst c39
            have H1 : (some false) = some r := by rw [if_neg (show ¬ (false = true) by decide)] at H; exact H
            clear H
            have H := H1
            clear H1
            exact absurd ((Option.some.inj H).trans HRT.out) (by decide)
          subst c39
          have H1 : (if t169.toList = a1_1.toList then ((tithebarnlaw13_works.f).bind fun t174 => (some t174)) else (some false)) = some r := by rw [if_pos rfl] at H; exact H
          clear H
          have H := H1
          clear H1
          by_cases c40 : t169.toList = a1_1.toList
          rotate_left
          · rw [if_neg c40] at H
            have c40b0 : (t169.toList == a1_1.toList) = false := beq_eq_false_iff_ne.mpr c40
            have c40b1 : (t169.toList != a1_1.toList) = true := bne_iff_ne.mpr c40
            exact absurd ((Option.some.inj H).trans HRT.out) (by decide)
          rw [if_pos c40] at H
          have c40b0 : (t169.toList == a1_1.toList) = true := beq_iff_eq.mpr c40
          have c40b1 : (t169.toList != a1_1.toList) = false := bne_eq_false_iff_eq.mpr c40
          clear c40
          replace H := Option.bind_eq_some_iff.mp H
          obtain ⟨t174, A410, H⟩ := H
          replace H : (some t174) = some r := H
          have A41 := Aside0.mk A410
          clear A410
          obtain rfl := Option.some.inj H
          have hnb42 := NB153_160.out
          have hnc42 := NB160_153.out
          have hcz43_0 : wc.cell? ⟨gb153, 0, none⟩ = some (.slice A1_0 l1_0.length c1_0) := (blk_cell BK153.out 0).trans rfl
          have hcz43_1 : wc.cell? ⟨gb153, 1, none⟩ = some (.string a1_1) := (blk_cell BK153.out 1).trans rfl
          have hfz43_0 := blk_frozen BK153.out 0
          have hfz43_1 := blk_frozen BK153.out 1
          go_wp2_with (first | ((with_reducible refine gate_callee (f := 12) rfl ?_); refine goesL_ (some 50) rfl rfl Tryz.func12 (by kernel_rfl) rfl #[.agg #[.slice A1_0 l1_0.length c1_0, .string a1_1]] rfl (by (try simp only [List.map_toArray, List.map_cons, List.map_nil]); first | done | rfl | (simp only [List.length_drop, List.length_take]; rfl)) ?_; (with_reducible refine (version_Print.calls _ _ l1_0 a1_1 t163 t164 _ ?side1 ?side2 ?side3 A32.out).mono ?_); (case side1 => repeat (first | exact (Kd.C_below HR1_0.out HB.out) | (with_reducible refine Kd.C_alloc ?_ _) | (with_reducible refine Kd.C_drewN ?_ _) | (with_reducible refine Kd.C_drew ?_))); (case side2 => exact HC1_0.out); (case side3 => exact VTabs.below HTabs.out tb); rintro e w44 ⟨rfl, hb⟩; refine ⟨_, rfl, ?_⟩; have n0_ := Aside0.mk (Kd.R_below (by (with_reducible repeat (first | apply Kd.R_alloc | apply Kd.R_drewN | apply Kd.R_drew)); exact HO_161000.out) hb); have n1_ := Aside0.mk (blk_below (g := gb153) (o := .cells #[.slice A1_0 l1_0.length c1_0, .string a1_1] 24 (0, 0)) tk hb); have n2_ := Aside0.mk (blk_below (g := gb160) (o := .cells #[.slice Ao16 t155.length co16, .string t158] 24 (0, 0)) tk hb); have n3_ := Aside0.mk (below_step tb hb); clear HO_161000; clear BK153; clear BK160; clear HB; have HO_161000 := n0_; have BK153 := n1_; have BK160 := n2_; have HB := n3_; clear n0_ n1_ n2_ n3_; (try clear hb); (try clear hb2); (try clear hk); (try clear hi)) | ((with_reducible refine gate_callee (f := 35) rfl ?_); refine goesL_ (some 62) rfl rfl Tryz.func35 (by kernel_rfl) rfl #[.string t163] rfl (by (try simp only [List.map_toArray, List.map_cons, List.map_nil]); first | done | rfl | (simp only [List.length_drop, List.length_take]; rfl)) ?_; (with_reducible refine (version_Parse.calls t163 t166 t169 t170 _ ?side1 A34.out).mono ?_); (case side1 => exact VTabs.below HTabs.out tb); rintro e w45 ⟨v167, rfl, ho0, hb⟩; refine ⟨_, rfl, ?_⟩; have n0_ := Aside0.mk (Kd.R_elder' (by (with_reducible repeat (first | apply Kd.R_alloc | apply Kd.R_drewN | apply Kd.R_drew)); exact HO_161000.out) (Kd.R_base ho0) hb); have n1_ := Aside0.mk (Kd.R_lower (Kd.R_new' ho0 (Kd.R_lt (by (with_reducible repeat (first | apply Kd.R_alloc | apply Kd.R_drewN | apply Kd.R_drew)); exact HO_161000.out))) (below_size tb)); have n2_ := Aside0.mk (blk_below (g := gb153) (o := .cells #[.slice A1_0 l1_0.length c1_0, .string a1_1] 24 (0, 0)) tk hb); have n3_ := Aside0.mk (blk_below (g := gb160) (o := .cells #[.slice Ao16 t155.length co16, .string t158] 24 (0, 0)) tk hb); have n4_ := Aside0.mk (below_step tb hb); clear HO_161000; clear BK153; clear BK160; clear HB; have HO_161000 := n0_; have HO168 := n1_; have BK153 := n2_; have BK160 := n3_; have HB := n4_; clear n0_ n1_ n2_ n3_ n4_; (try clear hb); (try clear hb2); (try clear hk); (try clear hi); (try clear ho0)) | ((with_reducible refine gate_dst (N := 11) rfl ?_); (try (refine gate_guard (by rfl) ?_; dsimp only)); refine box_event ?hg (N := 11) ?hd (cs := #[.slice none 0 0, .string (⟨#[]⟩ : ByteArray)]) (t := 24) ?hr ?_; (case hd => rfl); (case hg => rfl); (case hr => first | (go_simp; done) | (go_simp; rfl)); intro gb171 hg w46 hbox hb; have n0_ := Aside0.mk (Kd.R_below (by (with_reducible repeat (first | apply Kd.R_alloc | apply Kd.R_drewN | apply Kd.R_drew)); exact HO_161000.out) hb); have n1_ := Aside0.mk (Kd.R_below (by (with_reducible repeat (first | apply Kd.R_alloc | apply Kd.R_drewN | apply Kd.R_drew)); exact HO168.out) hb); have n2_ := Aside0.mk (blk_below (g := gb153) (o := .cells #[.slice A1_0 l1_0.length c1_0, .string a1_1] 24 (0, 0)) tk hb); have n3_ := Aside0.mk (blk_below (g := gb160) (o := .cells #[.slice Ao16 t155.length co16, .string t158] 24 (0, 0)) tk hb); have n4_ := Aside0.mk (below_step tb hb); have n5_ := Aside0.mk (hbox); have n6_ := Aside0.mk ((by rw [hg]; exact (below_size tb) : w.heap.size ≤ gb171)); have n7_ := Aside0.mk ((by rw [hg]; exact (below_size tb) : w.heap.size ≤ gb171)); have n8_ := Aside0.mk ((by rw [hg]; exact Nat.ne_of_lt (blk_lt (g := gb153) (o := .cells #[.slice A1_0 l1_0.length c1_0, .string a1_1] 24 (0, 0)) tk) : gb153 ≠ gb171)); have n9_ := Aside0.mk ((by rw [hg]; exact Nat.ne_of_gt (blk_lt (g := gb153) (o := .cells #[.slice A1_0 l1_0.length c1_0, .string a1_1] 24 (0, 0)) tk) : gb171 ≠ gb153)); have n10_ := Aside0.mk ((by rw [hg]; exact Nat.ne_of_lt (blk_lt (g := gb160) (o := .cells #[.slice Ao16 t155.length co16, .string t158] 24 (0, 0)) tk) : gb160 ≠ gb171)); have n11_ := Aside0.mk ((by rw [hg]; exact Nat.ne_of_gt (blk_lt (g := gb160) (o := .cells #[.slice Ao16 t155.length co16, .string t158] 24 (0, 0)) tk) : gb171 ≠ gb160)); clear HO_161000; clear HO168; clear BK153; clear BK160; clear HB; have HO_161000 := n0_; have HO168 := n1_; have BK153 := n2_; have BK160 := n3_; have HB := n4_; have BK171 := n5_; have GW171 := n6_; have GE171 := n7_; have NB153_171 := n8_; have NB171_153 := n9_; have NB160_171 := n10_; have NB171_160 := n11_; clear n0_ n1_ n2_ n3_ n4_ n5_ n6_ n7_ n8_ n9_ n10_ n11_; clear hb hbox hg; obtain ⟨Ao47, co47, eo47⟩ := Kd.R_slice HO168.out; subst eo47; have hnb48 := NB171_153.out; have hnc48 := NB153_171.out; have hnb49 := NB171_160.out; have hnc49 := NB160_171.out; have hcz50_0 : w46.cell? ⟨gb171, 0, none⟩ = some (.slice none 0 0) := (blk_cell BK171.out 0).trans rfl; have hcz50_1 : w46.cell? ⟨gb171, 1, none⟩ = some (.string (⟨#[]⟩ : ByteArray)) := (blk_cell BK171.out 1).trans rfl; have hfz50_0 := blk_frozen BK171.out 0; have hfz50_1 := blk_frozen BK171.out 1; have hcz51_0 : w46.cell? ⟨gb153, 0, none⟩ = some (.slice A1_0 l1_0.length c1_0) := (blk_cell BK153.out 0).trans rfl; have hcz51_1 : w46.cell? ⟨gb153, 1, none⟩ = some (.string a1_1) := (blk_cell BK153.out 1).trans rfl; have hfz51_0 := blk_frozen BK153.out 0; have hfz51_1 := blk_frozen BK153.out 1) | (go_at_call 45; (with_reducible refine (version_Compare.calls _ _ t166 t169 _ _ l1_0 a1_1 t172 _ ?side1 ?side2 ?side3 ?side4 A36.out).mono ?_); (case side1 => refine (Kd.R_reads' (e := 3) (base := w.heap.size) (ok := fun k_ => (True ∧ some k_ ≠ (.slice Ao16 t155.length co16 : Value).ownBlock)) (n := t166.length) (c := co47) ?_).2.2; exact (by (with_reducible repeat (first | apply Kd.R_alloc | apply Kd.R_drewN | apply Kd.R_drew)); exact (Kd.R_mono (Kd.R_far (p := ⟨gb171, 1, none⟩) (Kd.R_far (p := ⟨gb171, 0, none⟩) (Kd.R_types HO168.out BK171.out (by decide)) (fun _ hk => hk.2) (.slice Ao47 t166.length co47)) (fun _ hk => hk.2) (.string t169)) (fun _ h_ => h_.1)))); (case side2 => exact (Kd.R_reads' HO168.out).2.1); (case side3 => exact Kd.C_below HR1_0.out tb); (case side4 => exact HC1_0.out); rintro e w52 ⟨rfl, hb⟩; have n0_ := Aside0.mk (Kd.R_below (by (with_reducible repeat (first | apply Kd.R_alloc | apply Kd.R_drewN | apply Kd.R_drew)); exact (Kd.R_mono (Kd.R_far (p := ⟨gb171, 1, none⟩) (Kd.R_far (p := ⟨gb171, 0, none⟩) (Kd.R_types HO_161000.out BK171.out (by decide)) (fun _ hk => hk.2) (.slice Ao47 t166.length co47)) (fun _ hk => hk.2) (.string t169)) (fun _ h_ => h_.1))) hb); have n1_ := Aside0.mk (Kd.R_below (by (with_reducible repeat (first | apply Kd.R_alloc | apply Kd.R_drewN | apply Kd.R_drew)); exact (Kd.R_mono (Kd.R_far (p := ⟨gb171, 1, none⟩) (Kd.R_far (p := ⟨gb171, 0, none⟩) (Kd.R_types HO168.out BK171.out (by decide)) (fun _ hk => hk.2) (.slice Ao47 t166.length co47)) (fun _ hk => hk.2) (.string t169)) (fun _ h_ => h_.1))) hb); have n2_ := Aside0.mk (blk_below (g := gb153) (o := .cells #[.slice A1_0 l1_0.length c1_0, .string a1_1] 24 (0, 0)) (by (with_reducible repeat (first | refine blk_drewN ?_ _ | refine blk_drew ?_ | refine blk_alloc ?_ _)); refine blk_far ?_ NB153_171.out _; (with_reducible repeat (first | refine blk_drewN ?_ _ | refine blk_drew ?_ | refine blk_alloc ?_ _)); refine blk_far ?_ NB153_171.out _; (with_reducible repeat (first | refine blk_drewN ?_ _ | refine blk_drew ?_ | refine blk_alloc ?_ _)); exact BK153.out) hb); have n3_ := Aside0.mk (blk_below (g := gb160) (o := .cells #[.slice Ao16 t155.length co16, .string t158] 24 (0, 0)) (by (with_reducible repeat (first | refine blk_drewN ?_ _ | refine blk_drew ?_ | refine blk_alloc ?_ _)); refine blk_far ?_ NB160_171.out _; (with_reducible repeat (first | refine blk_drewN ?_ _ | refine blk_drew ?_ | refine blk_alloc ?_ _)); refine blk_far ?_ NB160_171.out _; (with_reducible repeat (first | refine blk_drewN ?_ _ | refine blk_drew ?_ | refine blk_alloc ?_ _)); exact BK160.out) hb); have n4_ := Aside0.mk (blk_below (g := gb171) (o := .cells #[.slice Ao47 t166.length co47, .string t169] 24 (0, 0)) (by (with_reducible repeat (first | refine blk_drewN ?_ _ | refine blk_drew ?_ | refine blk_alloc ?_ _)); refine blk_put (cs := #[.slice Ao47 t166.length co47, .string (⟨#[]⟩ : ByteArray)]) ?_ 1 _ rfl; (with_reducible repeat (first | refine blk_drewN ?_ _ | refine blk_drew ?_ | refine blk_alloc ?_ _)); refine blk_put (cs := #[.slice none 0 0, .string (⟨#[]⟩ : ByteArray)]) ?_ 0 _ rfl; (with_reducible repeat (first | refine blk_drewN ?_ _ | refine blk_drew ?_ | refine blk_alloc ?_ _)); exact BK171.out) hb); have n5_ := Aside0.mk (below_step tb hb); clear HO_161000; clear HO168; clear BK153; clear BK160; clear BK171; clear HB; have HO_161000 := n0_; have HO168 := n1_; have BK153 := n2_; have BK160 := n3_; have BK171 := n4_; have HB := n5_; clear n0_ n1_ n2_ n3_ n4_ n5_; (try clear hb); (try clear hb2); (try clear hk); (try clear hi); have hcz53_0 : w52.cell? ⟨gb171, 0, none⟩ = some (.slice Ao47 t166.length co47) := (blk_cell BK171.out 0).trans rfl; have hcz53_1 : w52.cell? ⟨gb171, 1, none⟩ = some (.string t169) := (blk_cell BK171.out 1).trans rfl; have hfz53_0 := blk_frozen BK171.out 0; have hfz53_1 := blk_frozen BK171.out 1; have hcz54_0 : w52.cell? ⟨gb153, 0, none⟩ = some (.slice A1_0 l1_0.length c1_0) := (blk_cell BK153.out 0).trans rfl; have hcz54_1 : w52.cell? ⟨gb153, 1, none⟩ = some (.string a1_1) := (blk_cell BK153.out 1).trans rfl; have hfz54_0 := blk_frozen BK153.out 0; have hfz54_1 := blk_frozen BK153.out 1) | (go_at_call 37; (with_reducible refine (tithebarnkit_SameInts.calls kj12 _ _ t166 _ _ l1_0 true _ ?side1 ?side2 ?side3 ?side4 A38.out).mono ?_); (case side1 => repeat (first | exact (Kd.R_reads' HO168.out).2.2 | (with_reducible refine Kd.C_alloc ?_ _) | (with_reducible refine Kd.C_drewN ?_ _) | (with_reducible refine Kd.C_drew ?_))); (case side2 => exact (Kd.R_reads' HO168.out).2.1); (case side3 => repeat (first | exact (Kd.C_below HR1_0.out HB.out) | (with_reducible refine Kd.C_alloc ?_ _) | (with_reducible refine Kd.C_drewN ?_ _) | (with_reducible refine Kd.C_drew ?_))); (case side4 => exact HC1_0.out); rintro e w' ⟨rfl, ⟨nd, rfl⟩⟩) | (go_at_call 11; (with_reducible refine (tithebarnlaw13_works.calls  t174 _ ?side1 A41.out).mono ?_); (case side1 => exact VTabs.below HTabs.out tb); rintro e w55 ⟨rfl, hb⟩; have n0_ := Aside0.mk (Kd.R_below (by (with_reducible repeat (first | apply Kd.R_alloc | apply Kd.R_drewN | apply Kd.R_drew)); exact HO_161000.out) hb); have n1_ := Aside0.mk (Kd.R_below (by (with_reducible repeat (first | apply Kd.R_alloc | apply Kd.R_drewN | apply Kd.R_drew)); exact HO168.out) hb); have n2_ := Aside0.mk (blk_below (g := gb153) (o := .cells #[.slice A1_0 l1_0.length c1_0, .string a1_1] 24 (0, 0)) tk hb); have n3_ := Aside0.mk (blk_below (g := gb160) (o := .cells #[.slice Ao16 t155.length co16, .string t158] 24 (0, 0)) tk hb); have n4_ := Aside0.mk (blk_below (g := gb171) (o := .cells #[.slice Ao47 t166.length co47, .string t169] 24 (0, 0)) tk hb); have n5_ := Aside0.mk (below_step tb hb); clear HO_161000; clear HO168; clear BK153; clear BK160; clear BK171; clear HB; have HO_161000 := n0_; have HO168 := n1_; have BK153 := n2_; have BK160 := n3_; have BK171 := n4_; have HB := n5_; clear n0_ n1_ n2_ n3_ n4_ n5_; (try clear hb); (try clear hb2); (try clear hk); (try clear hi)))
          go_ret
          exact ⟨by first | rfl | (simp [errW_none, errW_some] <;> rfl) | (simp [*, errW_none, errW_some] <;> rfl), tb⟩
end Go.Proofs.YtnbmdecehlljcaaGreatDoor.PVer
