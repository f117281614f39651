-- Laid by a program of this session (wip/tools/pgiven.py) out of the seat's translation. Lean checks it.
import Derived.Test.YtnbmdecehlljcaaGreatDoorPVerx0
import Derived.Test.YtnbmdecehlljcaaGreatDoorPVerx8
namespace Go.Proofs.YtnbmdecehlljcaaGreatDoor.PVer
open Go.RowKit Go.Proofs.YtnbmdecehlljcaaGreatDoorW.PrintWords Go.Proofs.YtnbmdecehlljcaaGreatDoorW.PrintLast Go.Proofs.YtnbmdecehlljcaaGreatDoorW.PrintMore
attribute [local go_sem] max2_int min2_int max_two min_two max_three min_three max_four min_four   -- for this text's walks alone
set_option linter.unusedVariables false
set_option linter.unusedSimpArgs false

attribute [local go_sem] isSome_setCellV
/-! ### tithebarnlaw13_VersionOrder: function 20 -/
mutual
def tithebarnlaw13_VersionOrder.j0 : Nat → Bool → List Int → ByteArray → List Int → ByteArray → List Int → ByteArray → Option (Bool)
  | 0, _, _, _, _, _, _, _ => none
  | k + 1, x44, x265000, x265001, x266000, x266001, x267000, x267001 => if x44 = true then ((tithebarnlaw13_works.f).bind fun t267 => (some t267)) else ((version_Compare.f x265000 x265001 x266000 x266001).bind fun t268 => ((version_Compare.f x266000 x266001 x267000 x267001).bind fun t269 => ((version_Compare.f x265000 x265001 x267000 x267001).bind fun t270 => ((tithebarnkit_SameInts.f k x265000 x266000).bind fun t271 => (if t271 = true then (tithebarnlaw13_VersionOrder.j1 k t268 t269 t270 (x265001.toList == x266001.toList) x265000 x265001 x266000 x266001) else (tithebarnlaw13_VersionOrder.j1 k t268 t269 t270 false x265000 x265001 x266000 x266001))))))
def tithebarnlaw13_VersionOrder.j1 : Nat → Int → Int → Int → Bool → List Int → ByteArray → List Int → ByteArray → Option (Bool)
  | 0, _, _, _, _, _, _, _, _ => none
  | k + 1, x7, x8, x9, x10, x265000, x265001, x266000, x266001 => (version_Compare.f x266000 x266001 x265000 x265001).bind fun t272 => (if x7 = (wrap64 (-t272)) then (if ((x7 == 0) != x10) = true then (some false) else (if x7 < (-1) then (some false) else (if x7 > 1 then (some false) else (if x7 ≤ 0 then (if x8 ≤ 0 then (if x9 > 0 then (some false) else (if x7 < 0 then (if x9 ≥ 0 then (some false) else ((tithebarnlaw13_works.f).bind fun t273 => (some t273))) else ((tithebarnlaw13_works.f).bind fun t274 => (some t274)))) else (if x7 < 0 then ((tithebarnlaw13_works.f).bind fun t275 => (some t275)) else ((tithebarnlaw13_works.f).bind fun t276 => (some t276)))) else (if x7 < 0 then (if x8 ≤ 0 then (if x9 ≥ 0 then (some false) else ((tithebarnlaw13_works.f).bind fun t277 => (some t277))) else ((tithebarnlaw13_works.f).bind fun t278 => (some t278))) else ((tithebarnlaw13_works.f).bind fun t279 => (some t279))))))) else (some false))
end
def tithebarnlaw13_VersionOrder.f (k : Nat) (l0_0 : List Int) (a0_1 : ByteArray) (l1_0 : List Int) (a1_1 : ByteArray) (l2_0 : List Int) (a2_1 : ByteArray) : Option (Bool) := if (l0_0.length : Int) > 100 then (tithebarnlaw13_VersionOrder.j0 k true l0_0 a0_1 l1_0 a1_1 l2_0 a2_1) else (if (l1_0.length : Int) > 100 then (tithebarnlaw13_VersionOrder.j0 k true l0_0 a0_1 l1_0 a1_1 l2_0 a2_1) else (if (l2_0.length : Int) > 100 then (tithebarnlaw13_VersionOrder.j0 k true l0_0 a0_1 l1_0 a1_1 l2_0 a2_1) else (if (a0_1.size : Int) > 100 then (tithebarnlaw13_VersionOrder.j0 k true l0_0 a0_1 l1_0 a1_1 l2_0 a2_1) else (if (a1_1.size : Int) > 100 then (tithebarnlaw13_VersionOrder.j0 k true l0_0 a0_1 l1_0 a1_1 l2_0 a2_1) else (tithebarnlaw13_VersionOrder.j0 k (decide ((a2_1.size : Int) > 100)) l0_0 a0_1 l1_0 a1_1 l2_0 a2_1)))))
theorem tithebarnlaw13_VersionOrder.mono_l : ∀ k, (∀ y0 y1 y2 y3 y4 y5 y6, LeO (tithebarnlaw13_VersionOrder.j0 k y0 y1 y2 y3 y4 y5 y6) (tithebarnlaw13_VersionOrder.j0 (k + 1) y0 y1 y2 y3 y4 y5 y6)) ∧ (∀ y0 y1 y2 y3 y4 y5 y6 y7, LeO (tithebarnlaw13_VersionOrder.j1 k y0 y1 y2 y3 y4 y5 y6 y7) (tithebarnlaw13_VersionOrder.j1 (k + 1) y0 y1 y2 y3 y4 y5 y6 y7))
  | 0 => ⟨fun _ _ _ _ _ _ _ r h => by simp [tithebarnlaw13_VersionOrder.j0] at h, fun _ _ _ _ _ _ _ _ r h => by simp [tithebarnlaw13_VersionOrder.j1] at h⟩
  | k + 1 => by
    obtain ⟨ih0, ih1⟩ := tithebarnlaw13_VersionOrder.mono_l k
    refine ⟨?_, ?_⟩
    · intro y0 y1 y2 y3 y4 y5 y6
      unfold tithebarnlaw13_VersionOrder.j0
      repeat' first
      | (with_reducible exact ih0 _ _ _ _ _ _ _)
      | (with_reducible exact ih1 _ _ _ _ _ _ _ _)
      | (with_reducible exact tithebarnkit_SameInts.mono _ _ _)
      | (with_reducible exact LeO.refl _)
      | (with_reducible exact LeO.none _)
      | (with_reducible refine LeO.ite ?_ ?_)
      | (with_reducible refine LeO.bind ?_ (fun _ => ?_))
      | exact ih0 _ _ _ _ _ _ _
      | exact ih1 _ _ _ _ _ _ _ _
      | exact tithebarnkit_SameInts.mono _ _ _
      | exact LeO.none _
      | refine LeO.ite ?_ ?_
      | refine LeO.bind ?_ (fun _ => ?_)
    · intro y0 y1 y2 y3 y4 y5 y6 y7
      unfold tithebarnlaw13_VersionOrder.j1
      repeat' first
      | (with_reducible exact ih0 _ _ _ _ _ _ _)
      | (with_reducible exact ih1 _ _ _ _ _ _ _ _)
      | (with_reducible exact tithebarnkit_SameInts.mono _ _ _)
      | (with_reducible exact LeO.refl _)
      | (with_reducible exact LeO.none _)
      | (with_reducible refine LeO.ite ?_ ?_)
      | (with_reducible refine LeO.bind ?_ (fun _ => ?_))
      | exact ih0 _ _ _ _ _ _ _
      | exact ih1 _ _ _ _ _ _ _ _
      | exact tithebarnkit_SameInts.mono _ _ _
      | exact LeO.none _
      | refine LeO.ite ?_ ?_
      | refine LeO.bind ?_ (fun _ => ?_)
theorem tithebarnlaw13_VersionOrder.mono : ∀ a0 a1 a2 a3 a4 a5 k, LeO (tithebarnlaw13_VersionOrder.f k a0 a1 a2 a3 a4 a5) (tithebarnlaw13_VersionOrder.f (k + 1) a0 a1 a2 a3 a4 a5) := by
  intro a0 a1 a2 a3 a4 a5 k
  obtain ⟨ih0, ih1⟩ := tithebarnlaw13_VersionOrder.mono_l k
  unfold tithebarnlaw13_VersionOrder.f
  repeat' first
      | (with_reducible exact ih0 _ _ _ _ _ _ _)
      | (with_reducible exact ih1 _ _ _ _ _ _ _ _)
      | (with_reducible exact tithebarnkit_SameInts.mono _ _ _)
      | (with_reducible exact LeO.refl _)
      | (with_reducible exact LeO.none _)
      | (with_reducible refine LeO.ite ?_ ?_)
      | (with_reducible refine LeO.bind ?_ (fun _ => ?_))
      | exact ih0 _ _ _ _ _ _ _
      | exact ih1 _ _ _ _ _ _ _ _
      | exact tithebarnkit_SameInts.mono _ _ _
      | exact LeO.none _
      | refine LeO.ite ?_ ?_
      | refine LeO.bind ?_ (fun _ => ?_)
def tithebarnlaw13_VersionOrder.T3 : Bool × List (List Nat × List Nat) := (true, [([], []), ([], []), ([0, 1], [0, 1]), ([], []), ([], []), ([3, 4, 2], [3, 4]), ([], []), ([], []), ([6, 7, 5], [6, 7]), ([2, 8, 0, 1, 2], [2]), ([5, 9, 0, 1, 2, 3, 4, 5, 9], [5]), ([8, 10, 0, 1, 2, 3, 4, 5, 6, 7, 8, 9, 10], [8])])
def tithebarnlaw13_VersionOrder.B3 : List Nat := [0, 0, 3, 0, 0, 31, 0, 0, 255, 511, 1023, 2047]
theorem tithebarnlaw13_VersionOrder.tab3 : rtab .any (opsOf Tryz.f20 3) = tithebarnlaw13_VersionOrder.T3 := by kernel_rfl
theorem tithebarnlaw13_VersionOrder.bits3 : waitsOk tithebarnlaw13_VersionOrder.T3.2 tithebarnlaw13_VersionOrder.B3 = true := by kernel_rfl
set_option maxHeartbeats 8000000 in
set_option maxRecDepth 100000 in
theorem tithebarnlaw13_VersionOrder.calls (k : Nat) (A0_0 : Option Addr) (c0_0 : Nat) (l0_0 : List Int) (a0_1 : ByteArray) (A1_0 : Option Addr) (c1_0 : Nat) (l1_0 : List Int) (a1_1 : ByteArray) (A2_0 : Option Addr) (c2_0 : Nat) (l2_0 : List Int) (a2_1 : ByteArray) (r : Bool) (w : World) (hr0_0 : Kd.C (Kd.int .i64) w A0_0 l0_0.length l0_0) (hc0_0 : l0_0.length ≤ c0_0) (hr1_0 : Kd.C (Kd.int .i64) w A1_0 l1_0.length l1_0) (hc1_0 : l1_0.length ≤ c1_0) (hr2_0 : Kd.C (Kd.int .i64) w A2_0 l2_0.length l2_0) (hc2_0 : l2_0.length ≤ c2_0) (hT : VTabs w) (h : tithebarnlaw13_VersionOrder.f k l0_0 a0_1 l1_0 a1_1 l2_0 a2_1 = some r) (hr : r = true) :
    Calls Tryz.prog 20 #[.agg #[.slice A0_0 l0_0.length c0_0, .string a0_1], .agg #[.slice A1_0 l1_0.length c1_0, .string a1_1], .agg #[.slice A2_0 l2_0.length c2_0, .string a2_1]] w fun e w' => e = .returned (.bool r) ∧ Below w.heap.size w w' := by
  have HRT := Aside0.mk hr
  clear hr
  have hu24 := Tryz.underlying24
  have HR0_0 := Aside0.mk hr0_0
  have HC0_0 := Aside0.mk hc0_0
  clear hr0_0 hc0_0
  have HR1_0 := Aside0.mk hr1_0
  have HC1_0 := Aside0.mk hc1_0
  clear hr1_0 hc1_0
  have HR2_0 := Aside0.mk hr2_0
  have HC2_0 := Aside0.mk hc2_0
  clear hr2_0 hc2_0
  have HB := Aside0.mk (Below.refl w.heap.size w)
  have HTabs := Aside0.mk hT
  clear hT
  have H : (if (l0_0.length : Int) > 100 then (tithebarnlaw13_VersionOrder.j0 k true l0_0 a0_1 l1_0 a1_1 l2_0 a2_1) else (if (l1_0.length : Int) > 100 then (tithebarnlaw13_VersionOrder.j0 k true l0_0 a0_1 l1_0 a1_1 l2_0 a2_1) else (if (l2_0.length : Int) > 100 then (tithebarnlaw13_VersionOrder.j0 k true l0_0 a0_1 l1_0 a1_1 l2_0 a2_1) else (if (a0_1.size : Int) > 100 then (tithebarnlaw13_VersionOrder.j0 k true l0_0 a0_1 l1_0 a1_1 l2_0 a2_1) else (if (a1_1.size : Int) > 100 then (tithebarnlaw13_VersionOrder.j0 k true l0_0 a0_1 l1_0 a1_1 l2_0 a2_1) else (tithebarnlaw13_VersionOrder.j0 k (decide ((a2_1.size : Int) > 100)) l0_0 a0_1 l1_0 a1_1 l2_0 a2_1)))))) = some r := h
  clear h
  have HC4 := Aside0.mk H
  clear H
  go_enter Tryz.func20, Tryz.ntmps20
  go_upto_region 1 with (first | ((with_reducible refine gate_dst (N := 3) rfl ?_); (try (refine gate_guard (by rfl) ?_; dsimp only)); refine box_event ?hg (N := 3) ?hd (cs := #[.slice A0_0 l0_0.length c0_0, .string a0_1]) (t := 24) ?hr ?_; (case hd => rfl); (case hg => rfl); (case hr => first | (go_simp; done) | (go_simp; rfl)); intro gb264 hg w5 hbox hb; have n0_ := Aside0.mk (below_step tb hb); have n1_ := Aside0.mk (hbox); have n2_ := Aside0.mk ((by rw [hg]; exact (below_size tb) : w.heap.size ≤ gb264)); have n3_ := Aside0.mk ((by rw [hg]; exact (below_size tb) : w.heap.size ≤ gb264)); clear HB; have HB := n0_; have BK264 := n1_; have GW264 := n2_; have GE264 := n3_; clear n0_ n1_ n2_ n3_; clear hb hbox hg) | ((with_reducible refine gate_dst (N := 4) rfl ?_); (try (refine gate_guard (by rfl) ?_; dsimp only)); refine box_event ?hg (N := 4) ?hd (cs := #[.slice A1_0 l1_0.length c1_0, .string a1_1]) (t := 24) ?hr ?_; (case hd => rfl); (case hg => rfl); (case hr => first | (go_simp; done) | (go_simp; rfl)); intro gb265 hg w6 hbox hb; have n0_ := Aside0.mk (blk_below (g := gb264) (o := .cells #[.slice A0_0 l0_0.length c0_0, .string a0_1] 24 (0, 0)) tk hb); have n1_ := Aside0.mk (below_step tb hb); have n2_ := Aside0.mk (hbox); have n3_ := Aside0.mk ((by rw [hg]; exact (below_size tb) : w.heap.size ≤ gb265)); have n4_ := Aside0.mk ((by rw [hg]; exact (below_size tb) : w.heap.size ≤ gb265)); have n5_ := Aside0.mk ((by rw [hg]; exact Nat.ne_of_lt (blk_lt (g := gb264) (o := .cells #[.slice A0_0 l0_0.length c0_0, .string a0_1] 24 (0, 0)) tk) : gb264 ≠ gb265)); have n6_ := Aside0.mk ((by rw [hg]; exact Nat.ne_of_gt (blk_lt (g := gb264) (o := .cells #[.slice A0_0 l0_0.length c0_0, .string a0_1] 24 (0, 0)) tk) : gb265 ≠ gb264)); clear BK264; clear HB; have BK264 := n0_; have HB := n1_; have BK265 := n2_; have GW265 := n3_; have GE265 := n4_; have NB264_265 := n5_; have NB265_264 := n6_; clear n0_ n1_ n2_ n3_ n4_ n5_ n6_; clear hb hbox hg) | ((with_reducible refine gate_dst (N := 5) rfl ?_); (try (refine gate_guard (by rfl) ?_; dsimp only)); refine box_event ?hg (N := 5) ?hd (cs := #[.slice A2_0 l2_0.length c2_0, .string a2_1]) (t := 24) ?hr ?_; (case hd => rfl); (case hg => rfl); (case hr => first | (go_simp; done) | (go_simp; rfl)); intro gb266 hg w7 hbox hb; have n0_ := Aside0.mk (blk_below (g := gb264) (o := .cells #[.slice A0_0 l0_0.length c0_0, .string a0_1] 24 (0, 0)) tk hb); have n1_ := Aside0.mk (blk_below (g := gb265) (o := .cells #[.slice A1_0 l1_0.length c1_0, .string a1_1] 24 (0, 0)) tk hb); have n2_ := Aside0.mk (below_step tb hb); have n3_ := Aside0.mk (hbox); have n4_ := Aside0.mk ((by rw [hg]; exact (below_size tb) : w.heap.size ≤ gb266)); have n5_ := Aside0.mk ((by rw [hg]; exact (below_size tb) : w.heap.size ≤ gb266)); have n6_ := Aside0.mk ((by rw [hg]; exact Nat.ne_of_lt (blk_lt (g := gb264) (o := .cells #[.slice A0_0 l0_0.length c0_0, .string a0_1] 24 (0, 0)) tk) : gb264 ≠ gb266)); have n7_ := Aside0.mk ((by rw [hg]; exact Nat.ne_of_gt (blk_lt (g := gb264) (o := .cells #[.slice A0_0 l0_0.length c0_0, .string a0_1] 24 (0, 0)) tk) : gb266 ≠ gb264)); have n8_ := Aside0.mk ((by rw [hg]; exact Nat.ne_of_lt (blk_lt (g := gb265) (o := .cells #[.slice A1_0 l1_0.length c1_0, .string a1_1] 24 (0, 0)) tk) : gb265 ≠ gb266)); have n9_ := Aside0.mk ((by rw [hg]; exact Nat.ne_of_gt (blk_lt (g := gb265) (o := .cells #[.slice A1_0 l1_0.length c1_0, .string a1_1] 24 (0, 0)) tk) : gb266 ≠ gb265)); clear BK264; clear BK265; clear HB; have BK264 := n0_; have BK265 := n1_; have HB := n2_; have BK266 := n3_; have GW266 := n4_; have GE266 := n5_; have NB264_266 := n6_; have NB266_264 := n7_; have NB265_266 := n8_; have NB266_265 := n9_; clear n0_ n1_ n2_ n3_ n4_ n5_ n6_ n7_ n8_ n9_; clear hb hbox hg))
  (try simp only [Act.put, List.setIfInBounds_toArray, List.set_cons_zero, List.set_cons_succ])
  go_cut [44] (fun v44 wc => ∃ (kq : Nat) (x44_3 : Bool), v44 = .bool x44_3 ∧ Aside0 (tithebarnlaw13_VersionOrder.j0 kq x44_3 l0_0 a0_1 l1_0 a1_1 l2_0 a2_1 = some r) ∧ Aside0 (kq ≤ k) ∧ Aside0 (wc.heap[gb264]? = some (.cells #[(.slice A0_0 l0_0.length c0_0), .string a0_1] 24 (0, 0))) ∧ Aside0 (wc.heap[gb265]? = some (.cells #[(.slice A1_0 l1_0.length c1_0), .string a1_1] 24 (0, 0))) ∧ Aside0 (wc.heap[gb266]? = some (.cells #[(.slice A2_0 l2_0.length c2_0), .string a2_1] 24 (0, 0))) ∧ Aside0 (Below w.heap.size w wc))
  case first =>
    have H := HC4.out
    clear HC4
    by_cases c8 : (l0_0.length : Int) > 100
    · rw [if_pos c8] at H
      have c8b0 : decide (100 < (l0_0.length : Int)) = true := decide_eq_true c8
      have c8b1 : decide (100 < l0_0.length) = true := decide_eq_true (by omega)
      clear c8
      (first | rw [c8b0] | (simp only [i64_w, i32_w]; rw [c8b0]) | skip)
      have H' := Aside0.mk H
      clear H
      have hnb9 := NB264_265.out
      have hnc9 := NB265_264.out
      have hnb10 := NB264_266.out
      have hnc10 := NB266_264.out
      have hcz11_0 : w7.cell? ⟨gb264, 0, none⟩ = some (.slice A0_0 l0_0.length c0_0) := (blk_cell BK264.out 0).trans rfl
      have hcz11_1 : w7.cell? ⟨gb264, 1, none⟩ = some (.string a0_1) := (blk_cell BK264.out 1).trans rfl
      have hfz11_0 := blk_frozen BK264.out 0
      have hfz11_1 := blk_frozen BK264.out 1
      go_wp2
      go_meet
      case rel => exact ⟨_, (true), (by first | rfl | (simp; done) | (simp [*]; done)), H', ⟨by first | omega | exact Nat.le_refl _⟩, ⟨by (with_reducible repeat (first | refine blk_drewN ?_ _ | refine blk_drew ?_ | refine blk_alloc ?_ _)); exact BK264.out⟩, ⟨by (with_reducible repeat (first | refine blk_drewN ?_ _ | refine blk_drew ?_ | refine blk_alloc ?_ _)); exact BK265.out⟩, ⟨by (with_reducible repeat (first | refine blk_drewN ?_ _ | refine blk_drew ?_ | refine blk_alloc ?_ _)); exact BK266.out⟩, ⟨tb⟩⟩
    rw [if_neg c8] at H
    have c8b0 : decide (100 < (l0_0.length : Int)) = false := decide_eq_false c8
    have c8b1 : decide (100 < l0_0.length) = false := decide_eq_false (by omega)
    clear c8
    (first | rw [c8b0] | (simp only [i64_w, i32_w]; rw [c8b0]) | skip)
    by_cases c12 : (l1_0.length : Int) > 100
    · rw [if_pos c12] at H
      have c12b0 : decide (100 < (l1_0.length : Int)) = true := decide_eq_true c12
      have c12b1 : decide (100 < l1_0.length) = true := decide_eq_true (by omega)
      clear c12
      have H' := Aside0.mk H
      clear H
      have hnb13 := NB264_265.out
      have hnc13 := NB265_264.out
      have hnb14 := NB264_266.out
      have hnc14 := NB266_264.out
      have hcz15_0 : w7.cell? ⟨gb264, 0, none⟩ = some (.slice A0_0 l0_0.length c0_0) := (blk_cell BK264.out 0).trans rfl
      have hcz15_1 : w7.cell? ⟨gb264, 1, none⟩ = some (.string a0_1) := (blk_cell BK264.out 1).trans rfl
      have hfz15_0 := blk_frozen BK264.out 0
      have hfz15_1 := blk_frozen BK264.out 1
      have hnb16 := NB265_266.out
      have hnc16 := NB266_265.out
      have hcz17_0 : w7.cell? ⟨gb265, 0, none⟩ = some (.slice A1_0 l1_0.length c1_0) := (blk_cell BK265.out 0).trans rfl
      have hcz17_1 : w7.cell? ⟨gb265, 1, none⟩ = some (.string a1_1) := (blk_cell BK265.out 1).trans rfl
      have hfz17_0 := blk_frozen BK265.out 0
      have hfz17_1 := blk_frozen BK265.out 1
      go_wp2
      go_meet
      case rel => exact ⟨_, (true), (by first | rfl | (simp; done) | (simp [*]; done)), H', ⟨by first | omega | exact Nat.le_refl _⟩, ⟨by (with_reducible repeat (first | refine blk_drewN ?_ _ | refine blk_drew ?_ | refine blk_alloc ?_ _)); exact BK264.out⟩, ⟨by (with_reducible repeat (first | refine blk_drewN ?_ _ | refine blk_drew ?_ | refine blk_alloc ?_ _)); exact BK265.out⟩, ⟨by (with_reducible repeat (first | refine blk_drewN ?_ _ | refine blk_drew ?_ | refine blk_alloc ?_ _)); exact BK266.out⟩, ⟨tb⟩⟩
    rw [if_neg c12] at H
    have c12b0 : decide (100 < (l1_0.length : Int)) = false := decide_eq_false c12
    have c12b1 : decide (100 < l1_0.length) = false := decide_eq_false (by omega)
    clear c12
    by_cases c18 : (l2_0.length : Int) > 100
    · rw [if_pos c18] at H
      have c18b0 : decide (100 < (l2_0.length : Int)) = true := decide_eq_true c18
      have c18b1 : decide (100 < l2_0.length) = true := decide_eq_true (by omega)
      clear c18
      have H' := Aside0.mk H
      clear H
      have hnb19 := NB264_265.out
      have hnc19 := NB265_264.out
      have hnb20 := NB264_266.out
      have hnc20 := NB266_264.out
      have hcz21_0 : w7.cell? ⟨gb264, 0, none⟩ = some (.slice A0_0 l0_0.length c0_0) := (blk_cell BK264.out 0).trans rfl
      have hcz21_1 : w7.cell? ⟨gb264, 1, none⟩ = some (.string a0_1) := (blk_cell BK264.out 1).trans rfl
      have hfz21_0 := blk_frozen BK264.out 0
      have hfz21_1 := blk_frozen BK264.out 1
      have hnb22 := NB265_266.out
      have hnc22 := NB266_265.out
      have hcz23_0 : w7.cell? ⟨gb265, 0, none⟩ = some (.slice A1_0 l1_0.length c1_0) := (blk_cell BK265.out 0).trans rfl
      have hcz23_1 : w7.cell? ⟨gb265, 1, none⟩ = some (.string a1_1) := (blk_cell BK265.out 1).trans rfl
      have hfz23_0 := blk_frozen BK265.out 0
      have hfz23_1 := blk_frozen BK265.out 1
      have hcz24_0 : w7.cell? ⟨gb266, 0, none⟩ = some (.slice A2_0 l2_0.length c2_0) := (blk_cell BK266.out 0).trans rfl
      have hcz24_1 : w7.cell? ⟨gb266, 1, none⟩ = some (.string a2_1) := (blk_cell BK266.out 1).trans rfl
      have hfz24_0 := blk_frozen BK266.out 0
      have hfz24_1 := blk_frozen BK266.out 1
      go_wp2
      go_meet
      case rel => exact ⟨_, (true), (by first | rfl | (simp; done) | (simp [*]; done)), H', ⟨by first | omega | exact Nat.le_refl _⟩, ⟨by (with_reducible repeat (first | refine blk_drewN ?_ _ | refine blk_drew ?_ | refine blk_alloc ?_ _)); exact BK264.out⟩, ⟨by (with_reducible repeat (first | refine blk_drewN ?_ _ | refine blk_drew ?_ | refine blk_alloc ?_ _)); exact BK265.out⟩, ⟨by (with_reducible repeat (first | refine blk_drewN ?_ _ | refine blk_drew ?_ | refine blk_alloc ?_ _)); exact BK266.out⟩, ⟨tb⟩⟩
    rw [if_neg c18] at H
    have c18b0 : decide (100 < (l2_0.length : Int)) = false := decide_eq_false c18
    have c18b1 : decide (100 < l2_0.length) = false := decide_eq_false (by omega)
    clear c18
    by_cases c25 : (a0_1.size : Int) > 100
    · rw [if_pos c25] at H
      have c25b0 : decide (100 < (a0_1.size : Int)) = true := decide_eq_true c25
      have c25b1 : decide (100 < a0_1.size) = true := decide_eq_true (by omega)
      clear c25
      have H' := Aside0.mk H
      clear H
      have hnb26 := NB264_265.out
      have hnc26 := NB265_264.out
      have hnb27 := NB264_266.out
      have hnc27 := NB266_264.out
      have hcz28_0 : w7.cell? ⟨gb264, 0, none⟩ = some (.slice A0_0 l0_0.length c0_0) := (blk_cell BK264.out 0).trans rfl
      have hcz28_1 : w7.cell? ⟨gb264, 1, none⟩ = some (.string a0_1) := (blk_cell BK264.out 1).trans rfl
      have hfz28_0 := blk_frozen BK264.out 0
      have hfz28_1 := blk_frozen BK264.out 1
      have hnb29 := NB265_266.out
      have hnc29 := NB266_265.out
      have hcz30_0 : w7.cell? ⟨gb265, 0, none⟩ = some (.slice A1_0 l1_0.length c1_0) := (blk_cell BK265.out 0).trans rfl
      have hcz30_1 : w7.cell? ⟨gb265, 1, none⟩ = some (.string a1_1) := (blk_cell BK265.out 1).trans rfl
      have hfz30_0 := blk_frozen BK265.out 0
      have hfz30_1 := blk_frozen BK265.out 1
      have hcz31_0 : w7.cell? ⟨gb266, 0, none⟩ = some (.slice A2_0 l2_0.length c2_0) := (blk_cell BK266.out 0).trans rfl
      have hcz31_1 : w7.cell? ⟨gb266, 1, none⟩ = some (.string a2_1) := (blk_cell BK266.out 1).trans rfl
      have hfz31_0 := blk_frozen BK266.out 0
      have hfz31_1 := blk_frozen BK266.out 1
      go_wp2
      go_meet
      case rel => exact ⟨_, (true), (by first | rfl | (simp; done) | (simp [*]; done)), H', ⟨by first | omega | exact Nat.le_refl _⟩, ⟨by (with_reducible repeat (first | refine blk_drewN ?_ _ | refine blk_drew ?_ | refine blk_alloc ?_ _)); exact BK264.out⟩, ⟨by (with_reducible repeat (first | refine blk_drewN ?_ _ | refine blk_drew ?_ | refine blk_alloc ?_ _)); exact BK265.out⟩, ⟨by (with_reducible repeat (first | refine blk_drewN ?_ _ | refine blk_drew ?_ | refine blk_alloc ?_ _)); exact BK266.out⟩, ⟨tb⟩⟩
    rw [if_neg c25] at H
    have c25b0 : decide (100 < (a0_1.size : Int)) = false := decide_eq_false c25
    have c25b1 : decide (100 < a0_1.size) = false := decide_eq_false (by omega)
    clear c25
    by_cases c32 : (a1_1.size : Int) > 100
    · rw [if_pos c32] at H
      have c32b0 : decide (100 < (a1_1.size : Int)) = true := decide_eq_true c32
      have c32b1 : decide (100 < a1_1.size) = true := decide_eq_true (by omega)
      clear c32
      have H' := Aside0.mk H
      clear H
      have hnb33 := NB264_265.out
      have hnc33 := NB265_264.out
      have hnb34 := NB264_266.out
      have hnc34 := NB266_264.out
      have hcz35_0 : w7.cell? ⟨gb264, 0, none⟩ = some (.slice A0_0 l0_0.length c0_0) := (blk_cell BK264.out 0).trans rfl
      have hcz35_1 : w7.cell? ⟨gb264, 1, none⟩ = some (.string a0_1) := (blk_cell BK264.out 1).trans rfl
      have hfz35_0 := blk_frozen BK264.out 0
      have hfz35_1 := blk_frozen BK264.out 1
      have hnb36 := NB265_266.out
      have hnc36 := NB266_265.out
      have hcz37_0 : w7.cell? ⟨gb265, 0, none⟩ = some (.slice A1_0 l1_0.length c1_0) := (blk_cell BK265.out 0).trans rfl
      have hcz37_1 : w7.cell? ⟨gb265, 1, none⟩ = some (.string a1_1) := (blk_cell BK265.out 1).trans rfl
      have hfz37_0 := blk_frozen BK265.out 0
      have hfz37_1 := blk_frozen BK265.out 1
      have hcz38_0 : w7.cell? ⟨gb266, 0, none⟩ = some (.slice A2_0 l2_0.length c2_0) := (blk_cell BK266.out 0).trans rfl
      have hcz38_1 : w7.cell? ⟨gb266, 1, none⟩ = some (.string a2_1) := (blk_cell BK266.out 1).trans rfl
      have hfz38_0 := blk_frozen BK266.out 0
      have hfz38_1 := blk_frozen BK266.out 1
      go_wp2
      go_meet
      case rel => exact ⟨_, (true), (by first | rfl | (simp; done) | (simp [*]; done)), H', ⟨by first | omega | exact Nat.le_refl _⟩, ⟨by (with_reducible repeat (first | refine blk_drewN ?_ _ | refine blk_drew ?_ | refine blk_alloc ?_ _)); exact BK264.out⟩, ⟨by (with_reducible repeat (first | refine blk_drewN ?_ _ | refine blk_drew ?_ | refine blk_alloc ?_ _)); exact BK265.out⟩, ⟨by (with_reducible repeat (first | refine blk_drewN ?_ _ | refine blk_drew ?_ | refine blk_alloc ?_ _)); exact BK266.out⟩, ⟨tb⟩⟩
    rw [if_neg c32] at H
    have c32b0 : decide (100 < (a1_1.size : Int)) = false := decide_eq_false c32
    have c32b1 : decide (100 < a1_1.size) = false := decide_eq_false (by omega)
    clear c32
    have H' := Aside0.mk H
    clear H
    have hnb39 := NB264_265.out
    have hnc39 := NB265_264.out
    have hnb40 := NB264_266.out
    have hnc40 := NB266_264.out
    have hcz41_0 : w7.cell? ⟨gb264, 0, none⟩ = some (.slice A0_0 l0_0.length c0_0) := (blk_cell BK264.out 0).trans rfl
    have hcz41_1 : w7.cell? ⟨gb264, 1, none⟩ = some (.string a0_1) := (blk_cell BK264.out 1).trans rfl
    have hfz41_0 := blk_frozen BK264.out 0
    have hfz41_1 := blk_frozen BK264.out 1
    have hnb42 := NB265_266.out
    have hnc42 := NB266_265.out
    have hcz43_0 : w7.cell? ⟨gb265, 0, none⟩ = some (.slice A1_0 l1_0.length c1_0) := (blk_cell BK265.out 0).trans rfl
    have hcz43_1 : w7.cell? ⟨gb265, 1, none⟩ = some (.string a1_1) := (blk_cell BK265.out 1).trans rfl
    have hfz43_0 := blk_frozen BK265.out 0
    have hfz43_1 := blk_frozen BK265.out 1
    have hcz44_0 : w7.cell? ⟨gb266, 0, none⟩ = some (.slice A2_0 l2_0.length c2_0) := (blk_cell BK266.out 0).trans rfl
    have hcz44_1 : w7.cell? ⟨gb266, 1, none⟩ = some (.string a2_1) := (blk_cell BK266.out 1).trans rfl
    have hfz44_0 := blk_frozen BK266.out 0
    have hfz44_1 := blk_frozen BK266.out 1
    go_wp2
    go_meet
    case rel => exact ⟨_, (decide ((a2_1.size : Int) > 100)), (by first | rfl | (simp; done) | (simp [*]; done)), H', ⟨by first | omega | exact Nat.le_refl _⟩, ⟨by (with_reducible repeat (first | refine blk_drewN ?_ _ | refine blk_drew ?_ | refine blk_alloc ?_ _)); exact BK264.out⟩, ⟨by (with_reducible repeat (first | refine blk_drewN ?_ _ | refine blk_drew ?_ | refine blk_alloc ?_ _)); exact BK265.out⟩, ⟨by (with_reducible repeat (first | refine blk_drewN ?_ _ | refine blk_drew ?_ | refine blk_alloc ?_ _)); exact BK266.out⟩, ⟨tb⟩⟩
  case rest =>
    clear HC4
    try clear c1
    try clear c2
    try clear p2
    try clear c3
    try clear c4
    try clear c8
    try clear c8b0
    try clear c8b1
    try clear c9
    try clear c10
    try clear c12
    try clear c12b0
    try clear c12b1
    try clear c13
    try clear c14
    try clear c16
    try clear c18
    try clear c18b0
    try clear c18b1
    try clear c19
    try clear c20
    try clear c22
    try clear c25
    try clear c25b0
    try clear c25b1
    try clear c26
    try clear c27
    try clear c29
    try clear c32
    try clear c32b0
    try clear c32b1
    try clear c33
    try clear c34
    try clear c36
    try clear c39
    try clear c40
    try clear c42
    try clear hcz11_0
    try clear hcz11_1
    try clear hcz15_0
    try clear hcz15_1
    try clear hcz17_0
    try clear hcz17_1
    try clear hcz21_0
    try clear hcz21_1
    try clear hcz23_0
    try clear hcz23_1
    try clear hcz24_0
    try clear hcz24_1
    try clear hcz28_0
    try clear hcz28_1
    try clear hcz30_0
    try clear hcz30_1
    try clear hcz31_0
    try clear hcz31_1
    try clear hcz35_0
    try clear hcz35_1
    try clear hcz37_0
    try clear hcz37_1
    try clear hcz38_0
    try clear hcz38_1
    try clear hcz41_0
    try clear hcz41_1
    try clear hcz43_0
    try clear hcz43_1
    try clear hcz44_0
    try clear hcz44_1
    try clear hfz11_0
    try clear hfz11_1
    try clear hfz15_0
    try clear hfz15_1
    try clear hfz17_0
    try clear hfz17_1
    try clear hfz21_0
    try clear hfz21_1
    try clear hfz23_0
    try clear hfz23_1
    try clear hfz24_0
    try clear hfz24_1
    try clear hfz28_0
    try clear hfz28_1
    try clear hfz30_0
    try clear hfz30_1
    try clear hfz31_0
    try clear hfz31_1
    try clear hfz35_0
    try clear hfz35_1
    try clear hfz37_0
    try clear hfz37_1
    try clear hfz38_0
    try clear hfz38_1
    try clear hfz41_0
    try clear hfz41_1
    try clear hfz43_0
    try clear hfz43_1
    try clear hfz44_0
    try clear hfz44_1
    obtain ⟨kq, x44_3, rfl, HA, HJ3, BK264, BK265, BK266, HB⟩ := hcut
    cases kq with
    | zero => exact absurd HA.out (by simp [tithebarnlaw13_VersionOrder.j0])
    | succ kj3 =>
      have H := HA.out
      clear HA
      simp only [tithebarnlaw13_VersionOrder.j0] at H
      by_cases c45 : x44_3 = true
      · subst c45
        have H1 : ((tithebarnlaw13_works.f).bind fun t267 => (some t267)) = some r := by rw [if_pos rfl] at H; exact H
        clear H
        have H := H1
        clear H1
        replace H := Option.bind_eq_some_iff.mp H
        obtain ⟨t267, A460, H⟩ := H
        replace H : (some t267) = some r := H
        have A46 := Aside0.mk A460
        clear A460
        obtain rfl := Option.some.inj H
        go_wp2_with (first | ((with_reducible refine gate_callee (f := 11) rfl ?_); refine goesL_ (some 45) rfl rfl Tryz.func11 (by kernel_rfl) rfl #[] rfl (by (try simp only [List.map_toArray, List.map_cons, List.map_nil]); first | done | rfl | (simp only [List.length_drop, List.length_take]; rfl)) ?_; (with_reducible refine (tithebarnlaw13_works.calls  t267 _ ?side1 A46.out).mono ?_); (case side1 => exact VTabs.below HTabs.out tb); rintro e w47 ⟨rfl, hb⟩; refine ⟨_, rfl, ?_⟩; have n0_ := Aside0.mk (blk_below (g := gb264) (o := .cells #[.slice A0_0 l0_0.length c0_0, .string a0_1] 24 (0, 0)) tk hb); have n1_ := Aside0.mk (blk_below (g := gb265) (o := .cells #[.slice A1_0 l1_0.length c1_0, .string a1_1] 24 (0, 0)) tk hb); have n2_ := Aside0.mk (blk_below (g := gb266) (o := .cells #[.slice A2_0 l2_0.length c2_0, .string a2_1] 24 (0, 0)) tk hb); have n3_ := Aside0.mk (below_step tb hb); clear BK264; clear BK265; clear BK266; clear HB; have BK264 := n0_; have BK265 := n1_; have BK266 := n2_; have HB := n3_; clear n0_ n1_ n2_ n3_; (try clear hb); (try clear hb2); (try clear hk); (try clear hi)))
        go_ret
        exact ⟨by first | rfl | (simp [errW_none, errW_some] <;> rfl) | (simp [*, errW_none, errW_some] <;> rfl), tb⟩
      replace c45 := Bool.eq_false_iff.mpr c45
      subst c45
      have H1 : ((version_Compare.f l0_0 a0_1 l1_0 a1_1).bind fun t268 => ((version_Compare.f l1_0 a1_1 l2_0 a2_1).bind fun t269 => ((version_Compare.f l0_0 a0_1 l2_0 a2_1).bind fun t270 => ((tithebarnkit_SameInts.f kj3 l0_0 l1_0).bind fun t271 => (if t271 = true then (tithebarnlaw13_VersionOrder.j1 kj3 t268 t269 t270 (a0_1.toList == a1_1.toList) l0_0 a0_1 l1_0 a1_1) else (tithebarnlaw13_VersionOrder.j1 kj3 t268 t269 t270 false l0_0 a0_1 l1_0 a1_1)))))) = some r := by rw [if_neg (show ¬ (false = true) by decide)] at H; exact H
      clear H
      have H := H1
      clear H1
      replace H := Option.bind_eq_some_iff.mp H
      obtain ⟨t268, A480, H⟩ := H
      replace H : ((version_Compare.f l1_0 a1_1 l2_0 a2_1).bind fun t269 => ((version_Compare.f l0_0 a0_1 l2_0 a2_1).bind fun t270 => ((tithebarnkit_SameInts.f kj3 l0_0 l1_0).bind fun t271 => (if t271 = true then (tithebarnlaw13_VersionOrder.j1 kj3 t268 t269 t270 (a0_1.toList == a1_1.toList) l0_0 a0_1 l1_0 a1_1) else (tithebarnlaw13_VersionOrder.j1 kj3 t268 t269 t270 false l0_0 a0_1 l1_0 a1_1))))) = some r := H
      have A48 := Aside0.mk A480
      clear A480
      replace H := Option.bind_eq_some_iff.mp H
      obtain ⟨t269, A490, H⟩ := H
      replace H : ((version_Compare.f l0_0 a0_1 l2_0 a2_1).bind fun t270 => ((tithebarnkit_SameInts.f kj3 l0_0 l1_0).bind fun t271 => (if t271 = true then (tithebarnlaw13_VersionOrder.j1 kj3 t268 t269 t270 (a0_1.toList == a1_1.toList) l0_0 a0_1 l1_0 a1_1) else (tithebarnlaw13_VersionOrder.j1 kj3 t268 t269 t270 false l0_0 a0_1 l1_0 a1_1)))) = some r := H
      have A49 := Aside0.mk A490
      clear A490
      replace H := Option.bind_eq_some_iff.mp H
      obtain ⟨t270, A500, H⟩ := H
      replace H : ((tithebarnkit_SameInts.f kj3 l0_0 l1_0).bind fun t271 => (if t271 = true then (tithebarnlaw13_VersionOrder.j1 kj3 t268 t269 t270 (a0_1.toList == a1_1.toList) l0_0 a0_1 l1_0 a1_1) else (tithebarnlaw13_VersionOrder.j1 kj3 t268 t269 t270 false l0_0 a0_1 l1_0 a1_1))) = some r := H
      have A50 := Aside0.mk A500
      clear A500
      have HC51 := Aside0.mk H
      clear H
      try go_wp2
      have n0_ := Aside0.mk (blk_drew BK264.out)
      have n1_ := Aside0.mk (blk_drew BK265.out)
      have n2_ := Aside0.mk (blk_drew BK266.out)
      have n3_ := Aside0.mk (below_drew1 HB.out)
      clear BK264
      clear BK265
      clear BK266
      clear HB
      have BK264 := n0_
      have BK265 := n1_
      have BK266 := n2_
      have HB := n3_
      clear n0_ n1_ n2_ n3_
      refine start_ (n := 12) (S := fun w' => w'.cell? ⟨gb264, 0, none⟩ = some (.slice A0_0 l0_0.length c0_0) ∧ w'.cell? ⟨gb264, 1, none⟩ = some (.string a0_1) ∧ w'.cell? ⟨gb265, 0, none⟩ = some (.slice A1_0 l1_0.length c1_0) ∧ w'.cell? ⟨gb265, 1, none⟩ = some (.string a1_1) ∧ w'.cell? ⟨gb266, 0, none⟩ = some (.slice A2_0 l2_0.length c2_0) ∧ w'.cell? ⟨gb266, 1, none⟩ = some (.string a2_1)) (ds := []) #[false, false, false, false, false, false, false, false, false, false, false, false] (by kernel_rfl) rfl rfl ⟨(blk_cell BK264.out 0).trans rfl, (blk_cell BK264.out 1).trans rfl, (blk_cell BK265.out 0).trans rfl, (blk_cell BK265.out 1).trans rfl, (blk_cell BK266.out 0).trans rfl, (blk_cell BK266.out 1).trans rfl⟩ (fun hHeld => ?_); refine with_tabW tithebarnlaw13_VersionOrder.tab3 tithebarnlaw13_VersionOrder.bits3 (fun HT_ HW_ => ?_)
      generalize wc.drew = w52 at BK264 BK265 BK266 HB hHeld ⊢
      refine take_ (i := 0) (N := some 46) (v := ?_) (a' := ?_) #[true, false, false, false, false, false, false, false, false, false, false, false] rfl rfl (take_ofW HT_.out HW_.out (by kernel_rfl)) (fun _ _ _ h => h) (Or.inl ⟨by rfl, ?_⟩) hHeld ?_ ?_
      rotate_left
      · rintro w' ⟨s0, s1, s2, s3, s4, s5⟩
        go_simp
        with_reducible rfl
      rotate_left
      · simp only [Act.put, List.setIfInBounds_toArray, List.set_cons_zero, List.set_cons_succ, i64_w, i32_w]
        rfl
      refine take_ (i := 1) (N := some 47) (v := ?_) (a' := ?_) #[true, true, false, false, false, false, false, false, false, false, false, false] rfl rfl (take_ofW HT_.out HW_.out (by kernel_rfl)) (fun _ _ _ h => h) (Or.inl ⟨by rfl, ?_⟩) hHeld ?_ ?_
      rotate_left
      · rintro w' ⟨s0, s1, s2, s3, s4, s5⟩
        go_simp
        with_reducible rfl
      rotate_left
      · simp only [Act.put, List.setIfInBounds_toArray, List.set_cons_zero, List.set_cons_succ, i64_w, i32_w]
        rfl
      refine take_ (i := 3) (N := some 49) (v := ?_) (a' := ?_) #[true, true, false, true, false, false, false, false, false, false, false, false] rfl rfl (take_ofW HT_.out HW_.out (by kernel_rfl)) (fun _ _ _ h => h) (Or.inl ⟨by rfl, ?_⟩) hHeld ?_ ?_
      rotate_left
      · rintro w' ⟨s0, s1, s2, s3, s4, s5⟩
        go_simp
        with_reducible rfl
      rotate_left
      · simp only [Act.put, List.setIfInBounds_toArray, List.set_cons_zero, List.set_cons_succ, i64_w, i32_w]
        rfl
      refine take_ (i := 4) (N := some 50) (v := ?_) (a' := ?_) #[true, true, false, true, true, false, false, false, false, false, false, false] rfl rfl (take_ofW HT_.out HW_.out (by kernel_rfl)) (fun _ _ _ h => h) (Or.inl ⟨by rfl, ?_⟩) hHeld ?_ ?_
      rotate_left
      · rintro w' ⟨s0, s1, s2, s3, s4, s5⟩
        go_simp
        with_reducible rfl
      rotate_left
      · simp only [Act.put, List.setIfInBounds_toArray, List.set_cons_zero, List.set_cons_succ, i64_w, i32_w]
        rfl
      refine take_ (i := 6) (N := some 52) (v := ?_) (a' := ?_) #[true, true, false, true, true, false, true, false, false, false, false, false] rfl rfl (take_ofW HT_.out HW_.out (by kernel_rfl)) (fun _ _ _ h => h) (Or.inl ⟨by rfl, ?_⟩) hHeld ?_ ?_
      rotate_left
      · rintro w' ⟨s0, s1, s2, s3, s4, s5⟩
        go_simp
        with_reducible rfl
      rotate_left
      · simp only [Act.put, List.setIfInBounds_toArray, List.set_cons_zero, List.set_cons_succ, i64_w, i32_w]
        rfl
      refine take_ (i := 7) (N := some 53) (v := ?_) (a' := ?_) #[true, true, false, true, true, false, true, true, false, false, false, false] rfl rfl (take_ofW HT_.out HW_.out (by kernel_rfl)) (fun _ _ _ h => h) (Or.inl ⟨by rfl, ?_⟩) hHeld ?_ ?_
      rotate_left
      · rintro w' ⟨s0, s1, s2, s3, s4, s5⟩
        go_simp
        with_reducible rfl
      rotate_left
      · simp only [Act.put, List.setIfInBounds_toArray, List.set_cons_zero, List.set_cons_succ, i64_w, i32_w]
        rfl
      refine one_ (i := 2) (N := some 48) #[true, true, true, true, true, false, true, true, false, false, false, false] rfl rfl (one_of HT_.out (by kernel_rfl)) (by decide) (fun K hK => ?_)
      refine goes_ Tryz.func45 (by kernel_rfl) rfl #[.agg #[.slice A0_0 l0_0.length c0_0, .string a0_1], .agg #[.slice A1_0 l1_0.length c1_0, .string a1_1]] (by rfl) rfl rfl (by (try simp only [List.map_toArray, List.map_cons, List.map_nil]); first | done | rfl | (simp only [List.length_drop, List.length_take]; rfl)) ?_
      with_reducible refine (version_Compare.calls _ _ l0_0 a0_1 _ _ l1_0 a1_1 t268 _ ?side1 ?side2 ?side3 ?side4 A48.out).mono ?_
      (case side1 => repeat (first | exact (Kd.C_below HR0_0.out HB.out) | (with_reducible refine Kd.C_alloc ?_ _) | (with_reducible refine Kd.C_drewN ?_ _) | (with_reducible refine Kd.C_drew ?_)))
      (case side2 => exact HC0_0.out)
      (case side3 => repeat (first | exact (Kd.C_below HR1_0.out HB.out) | (with_reducible refine Kd.C_alloc ?_ _) | (with_reducible refine Kd.C_drewN ?_ _) | (with_reducible refine Kd.C_drew ?_)))
      (case side4 => exact HC1_0.out)
      rintro e w53 ⟨rfl, hb⟩
      refine ⟨_, rfl, ?_⟩
      have n0_ := Aside0.mk (blk_below (g := gb264) (o := .cells #[.slice A0_0 l0_0.length c0_0, .string a0_1] 24 (0, 0)) tk hb)
      have n1_ := Aside0.mk (blk_below (g := gb265) (o := .cells #[.slice A1_0 l1_0.length c1_0, .string a1_1] 24 (0, 0)) tk hb)
      have n2_ := Aside0.mk (blk_below (g := gb266) (o := .cells #[.slice A2_0 l2_0.length c2_0, .string a2_1] 24 (0, 0)) tk hb)
      have n3_ := Aside0.mk (below_step tb hb)
      clear BK264
      clear BK265
      clear BK266
      clear HB
      have BK264 := n0_
      have BK265 := n1_
      have BK266 := n2_
      have HB := n3_
      clear n0_ n1_ n2_ n3_
      (try clear hb)
      (try clear hb2)
      (try clear hk)
      (try clear hi)
      refine hK.out _ _ ⟨(blk_cell BK264.out 0).trans rfl, (blk_cell BK264.out 1).trans rfl, (blk_cell BK265.out 0).trans rfl, (blk_cell BK265.out 1).trans rfl, (blk_cell BK266.out 0).trans rfl, (blk_cell BK266.out 1).trans rfl⟩ (fun hHeld => ?_)
      clear hK K
      refine norm_ (a' := ?_) ?_ ?_
      rotate_left
      · show Act.put _ (some 48) _ = _
        simp only [Act.put, List.setIfInBounds_toArray, List.set_cons_zero, List.set_cons_succ, i64_w, i32_w]
        rfl
      refine one_ (i := 5) (N := some 51) #[true, true, true, true, true, true, true, true, false, false, false, false] rfl rfl (one_of HT_.out (by kernel_rfl)) (by decide) (fun K hK => ?_)
      refine goes_ Tryz.func45 (by kernel_rfl) rfl #[.agg #[.slice A1_0 l1_0.length c1_0, .string a1_1], .agg #[.slice A2_0 l2_0.length c2_0, .string a2_1]] (by rfl) rfl rfl (by (try simp only [List.map_toArray, List.map_cons, List.map_nil]); first | done | rfl | (simp only [List.length_drop, List.length_take]; rfl)) ?_
      with_reducible refine (version_Compare.calls _ _ l1_0 a1_1 _ _ l2_0 a2_1 t269 _ ?side1 ?side2 ?side3 ?side4 A49.out).mono ?_
      (case side1 => repeat (first | exact (Kd.C_below HR1_0.out HB.out) | (with_reducible refine Kd.C_alloc ?_ _) | (with_reducible refine Kd.C_drewN ?_ _) | (with_reducible refine Kd.C_drew ?_)))
      (case side2 => exact HC1_0.out)
      (case side3 => repeat (first | exact (Kd.C_below HR2_0.out HB.out) | (with_reducible refine Kd.C_alloc ?_ _) | (with_reducible refine Kd.C_drewN ?_ _) | (with_reducible refine Kd.C_drew ?_)))
      (case side4 => exact HC2_0.out)
      rintro e w54 ⟨rfl, hb⟩
      refine ⟨_, rfl, ?_⟩
      have n0_ := Aside0.mk (blk_below (g := gb264) (o := .cells #[.slice A0_0 l0_0.length c0_0, .string a0_1] 24 (0, 0)) tk hb)
      have n1_ := Aside0.mk (blk_below (g := gb265) (o := .cells #[.slice A1_0 l1_0.length c1_0, .string a1_1] 24 (0, 0)) tk hb)
      have n2_ := Aside0.mk (blk_below (g := gb266) (o := .cells #[.slice A2_0 l2_0.length c2_0, .string a2_1] 24 (0, 0)) tk hb)
      have n3_ := Aside0.mk (below_step tb hb)
      clear BK264
      clear BK265
      clear BK266
      clear HB
      have BK264 := n0_
      have BK265 := n1_
      have BK266 := n2_
      have HB := n3_
      clear n0_ n1_ n2_ n3_
      (try clear hb)
      (try clear hb2)
      (try clear hk)
      (try clear hi)
      refine hK.out _ _ ⟨(blk_cell BK264.out 0).trans rfl, (blk_cell BK264.out 1).trans rfl, (blk_cell BK265.out 0).trans rfl, (blk_cell BK265.out 1).trans rfl, (blk_cell BK266.out 0).trans rfl, (blk_cell BK266.out 1).trans rfl⟩ (fun hHeld => ?_)
      clear hK K
      refine norm_ (a' := ?_) ?_ ?_
      rotate_left
      · show Act.put _ (some 51) _ = _
        simp only [Act.put, List.setIfInBounds_toArray, List.set_cons_zero, List.set_cons_succ, i64_w, i32_w]
        rfl
      refine one_ (i := 8) (N := some 54) #[true, true, true, true, true, true, true, true, true, false, false, false] rfl rfl (one_of HT_.out (by kernel_rfl)) (by decide) (fun K hK => ?_)
      refine goes_ Tryz.func45 (by kernel_rfl) rfl #[.agg #[.slice A0_0 l0_0.length c0_0, .string a0_1], .agg #[.slice A2_0 l2_0.length c2_0, .string a2_1]] (by rfl) rfl rfl (by (try simp only [List.map_toArray, List.map_cons, List.map_nil]); first | done | rfl | (simp only [List.length_drop, List.length_take]; rfl)) ?_
      with_reducible refine (version_Compare.calls _ _ l0_0 a0_1 _ _ l2_0 a2_1 t270 _ ?side1 ?side2 ?side3 ?side4 A50.out).mono ?_
      (case side1 => repeat (first | exact (Kd.C_below HR0_0.out HB.out) | (with_reducible refine Kd.C_alloc ?_ _) | (with_reducible refine Kd.C_drewN ?_ _) | (with_reducible refine Kd.C_drew ?_)))
      (case side2 => exact HC0_0.out)
      (case side3 => repeat (first | exact (Kd.C_below HR2_0.out HB.out) | (with_reducible refine Kd.C_alloc ?_ _) | (with_reducible refine Kd.C_drewN ?_ _) | (with_reducible refine Kd.C_drew ?_)))
      (case side4 => exact HC2_0.out)
      rintro e w55 ⟨rfl, hb⟩
      refine ⟨_, rfl, ?_⟩
      have n0_ := Aside0.mk (blk_below (g := gb264) (o := .cells #[.slice A0_0 l0_0.length c0_0, .string a0_1] 24 (0, 0)) tk hb)
      have n1_ := Aside0.mk (blk_below (g := gb265) (o := .cells #[.slice A1_0 l1_0.length c1_0, .string a1_1] 24 (0, 0)) tk hb)
      have n2_ := Aside0.mk (blk_below (g := gb266) (o := .cells #[.slice A2_0 l2_0.length c2_0, .string a2_1] 24 (0, 0)) tk hb)
      have n3_ := Aside0.mk (below_step tb hb)
      clear BK264
      clear BK265
      clear BK266
      clear HB
      have BK264 := n0_
      have BK265 := n1_
      have BK266 := n2_
      have HB := n3_
      clear n0_ n1_ n2_ n3_
      (try clear hb)
      (try clear hb2)
      (try clear hk)
      (try clear hi)
      refine hK.out _ _ ⟨(blk_cell BK264.out 0).trans rfl, (blk_cell BK264.out 1).trans rfl, (blk_cell BK265.out 0).trans rfl, (blk_cell BK265.out 1).trans rfl, (blk_cell BK266.out 0).trans rfl, (blk_cell BK266.out 1).trans rfl⟩ (fun hHeld => ?_)
      clear hK K
      refine norm_ (a' := ?_) ?_ ?_
      rotate_left
      · show Act.put _ (some 54) _ = _
        simp only [Act.put, List.setIfInBounds_toArray, List.set_cons_zero, List.set_cons_succ, i64_w, i32_w]
        rfl
      refine pure_ (i := 9) (N := some 7) (v := ?_) (a' := ?_) #[true, true, true, true, true, true, true, true, true, true, false, false] rfl rfl (any_of HT_.out (by kernel_rfl)) (fun _ _ _ h => h) (Or.inl ⟨by rfl, ?_⟩) ?_ ?_
      rotate_left
      · intro w'
        go_simp
        with_reducible rfl
      rotate_left
      · simp only [Act.put, List.setIfInBounds_toArray, List.set_cons_zero, List.set_cons_succ, i64_w, i32_w]
        rfl
      refine pure_ (i := 10) (N := some 8) (v := ?_) (a' := ?_) #[true, true, true, true, true, true, true, true, true, true, true, false] rfl rfl (any_of HT_.out (by kernel_rfl)) (fun _ _ _ h => h) (Or.inl ⟨by rfl, ?_⟩) ?_ ?_
      rotate_left
      · intro w'
        go_simp
        with_reducible rfl
      rotate_left
      · simp only [Act.put, List.setIfInBounds_toArray, List.set_cons_zero, List.set_cons_succ, i64_w, i32_w]
        rfl
      refine pure_ (i := 11) (N := some 9) (v := ?_) (a' := ?_) #[true, true, true, true, true, true, true, true, true, true, true, true] rfl rfl (any_of HT_.out (by kernel_rfl)) (fun _ _ _ h => h) (Or.inl ⟨by rfl, ?_⟩) ?_ ?_
      rotate_left
      · intro w'
        go_simp
        with_reducible rfl
      rotate_left
      · simp only [Act.put, List.setIfInBounds_toArray, List.set_cons_zero, List.set_cons_succ, i64_w, i32_w]
        rfl
      refine done_ (done_of HT_.out (by kernel_rfl)) ?_
      go_upto_region 4 with (fail)
      go_cut [10] (fun v10 wc => ∃ (kq : Nat) (x10_50 : Bool), v10 = .bool x10_50 ∧ Aside0 (tithebarnlaw13_VersionOrder.j1 kq t268 t269 t270 x10_50 l0_0 a0_1 l1_0 a1_1 = some r) ∧ Aside0 (kq ≤ kj3) ∧ Aside0 (wc.heap[gb264]? = some (.cells #[(.slice A0_0 l0_0.length c0_0), .string a0_1] 24 (0, 0))) ∧ Aside0 (wc.heap[gb265]? = some (.cells #[(.slice A1_0 l1_0.length c1_0), .string a1_1] 24 (0, 0))) ∧ Aside0 (wc.heap[gb266]? = some (.cells #[(.slice A2_0 l2_0.length c2_0), .string a2_1] 24 (0, 0))) ∧ Aside0 (Below w.heap.size w wc))
      case first =>
        have H := HC51.out
        clear HC51
        replace H := Option.bind_eq_some_iff.mp H
        obtain ⟨t271, A560, H⟩ := H
        replace H : (if t271 = true then (tithebarnlaw13_VersionOrder.j1 kj3 t268 t269 t270 (a0_1.toList == a1_1.toList) l0_0 a0_1 l1_0 a1_1) else (tithebarnlaw13_VersionOrder.j1 kj3 t268 t269 t270 false l0_0 a0_1 l1_0 a1_1)) = some r := H
        have A56 := Aside0.mk A560
        clear A560
        by_cases c57 : t271 = true
        · subst c57
          have H1 : (tithebarnlaw13_VersionOrder.j1 kj3 t268 t269 t270 (a0_1.toList == a1_1.toList) l0_0 a0_1 l1_0 a1_1) = some r := by rw [if_pos rfl] at H; exact H
          clear H
          have H := H1
          clear H1
          have H' := Aside0.mk H
          clear H
          have hnb58 := NB264_265.out
          have hnc58 := NB265_264.out
          have hnb59 := NB264_266.out
          have hnc59 := NB266_264.out
          have hcz60_0 : w55.cell? ⟨gb264, 0, none⟩ = some (.slice A0_0 l0_0.length c0_0) := (blk_cell BK264.out 0).trans rfl
          have hcz60_1 : w55.cell? ⟨gb264, 1, none⟩ = some (.string a0_1) := (blk_cell BK264.out 1).trans rfl
          have hfz60_0 := blk_frozen BK264.out 0
          have hfz60_1 := blk_frozen BK264.out 1
          have hnb61 := NB265_266.out
          have hnc61 := NB266_265.out
          have hcz62_0 : w55.cell? ⟨gb265, 0, none⟩ = some (.slice A1_0 l1_0.length c1_0) := (blk_cell BK265.out 0).trans rfl
          have hcz62_1 : w55.cell? ⟨gb265, 1, none⟩ = some (.string a1_1) := (blk_cell BK265.out 1).trans rfl
          have hfz62_0 := blk_frozen BK265.out 0
          have hfz62_1 := blk_frozen BK265.out 1
          go_wp2_with (first | ((with_reducible refine gate_callee (f := 37) rfl ?_); refine goesL_ (some 59) rfl rfl Tryz.func37 (by kernel_rfl) rfl #[.slice A0_0 l0_0.length c0_0, .slice A1_0 l1_0.length c1_0] rfl (by (try simp only [List.map_toArray, List.map_cons, List.map_nil]); first | done | rfl | (simp only [List.length_drop, List.length_take]; rfl)) ?_; (with_reducible refine (tithebarnkit_SameInts.calls kj3 _ _ l0_0 _ _ l1_0 true _ ?side1 ?side2 ?side3 ?side4 A56.out).mono ?_); (case side1 => repeat (first | exact (Kd.C_below HR0_0.out HB.out) | (with_reducible refine Kd.C_alloc ?_ _) | (with_reducible refine Kd.C_drewN ?_ _) | (with_reducible refine Kd.C_drew ?_))); (case side2 => exact HC0_0.out); (case side3 => repeat (first | exact (Kd.C_below HR1_0.out HB.out) | (with_reducible refine Kd.C_alloc ?_ _) | (with_reducible refine Kd.C_drewN ?_ _) | (with_reducible refine Kd.C_drew ?_))); (case side4 => exact HC1_0.out); rintro e w' ⟨rfl, ⟨nd, rfl⟩⟩; refine ⟨_, rfl, ?_⟩))
          go_meet
          case rel => exact ⟨_, ((a0_1.toList == a1_1.toList)), (by first | rfl | (simp; done) | (simp [*]; done)), H', ⟨by have := HJ3.out; first | omega | exact Nat.le_refl _⟩, ⟨by (with_reducible repeat (first | refine blk_drewN ?_ _ | refine blk_drew ?_ | refine blk_alloc ?_ _)); exact BK264.out⟩, ⟨by (with_reducible repeat (first | refine blk_drewN ?_ _ | refine blk_drew ?_ | refine blk_alloc ?_ _)); exact BK265.out⟩, ⟨by (with_reducible repeat (first | refine blk_drewN ?_ _ | refine blk_drew ?_ | refine blk_alloc ?_ _)); exact BK266.out⟩, ⟨tb⟩⟩
        replace c57 := Bool.eq_false_iff.mpr c57
        subst c57
        have H1 : (tithebarnlaw13_VersionOrder.j1 kj3 t268 t269 t270 false l0_0 a0_1 l1_0 a1_1) = some r := by rw [if_neg (show ¬ (false = true) by decide)] at H; exact H
        clear H
        have H := H1
        clear H1
        have H' := Aside0.mk H
        clear H
        have hnb63 := NB264_265.out
        have hnc63 := NB265_264.out
        have hnb64 := NB264_266.out
        have hnc64 := NB266_264.out
        have hcz65_0 : w55.cell? ⟨gb264, 0, none⟩ = some (.slice A0_0 l0_0.length c0_0) := (blk_cell BK264.out 0).trans rfl
        have hcz65_1 : w55.cell? ⟨gb264, 1, none⟩ = some (.string a0_1) := (blk_cell BK264.out 1).trans rfl
        have hfz65_0 := blk_frozen BK264.out 0
        have hfz65_1 := blk_frozen BK264.out 1
        have hnb66 := NB265_266.out
        have hnc66 := NB266_265.out
        have hcz67_0 : w55.cell? ⟨gb265, 0, none⟩ = some (.slice A1_0 l1_0.length c1_0) := (blk_cell BK265.out 0).trans rfl
        have hcz67_1 : w55.cell? ⟨gb265, 1, none⟩ = some (.string a1_1) := (blk_cell BK265.out 1).trans rfl
        have hfz67_0 := blk_frozen BK265.out 0
        have hfz67_1 := blk_frozen BK265.out 1
        go_wp2_with (first | ((with_reducible refine gate_callee (f := 37) rfl ?_); refine goesL_ (some 59) rfl rfl Tryz.func37 (by kernel_rfl) rfl #[.slice A0_0 l0_0.length c0_0, .slice A1_0 l1_0.length c1_0] rfl (by (try simp only [List.map_toArray, List.map_cons, List.map_nil]); first | done | rfl | (simp only [List.length_drop, List.length_take]; rfl)) ?_; (with_reducible refine (tithebarnkit_SameInts.calls kj3 _ _ l0_0 _ _ l1_0 false _ ?side1 ?side2 ?side3 ?side4 A56.out).mono ?_); (case side1 => repeat (first | exact (Kd.C_below HR0_0.out HB.out) | (with_reducible refine Kd.C_alloc ?_ _) | (with_reducible refine Kd.C_drewN ?_ _) | (with_reducible refine Kd.C_drew ?_))); (case side2 => exact HC0_0.out); (case side3 => repeat (first | exact (Kd.C_below HR1_0.out HB.out) | (with_reducible refine Kd.C_alloc ?_ _) | (with_reducible refine Kd.C_drewN ?_ _) | (with_reducible refine Kd.C_drew ?_))); (case side4 => exact HC1_0.out); rintro e w' ⟨rfl, ⟨nd, rfl⟩⟩; refine ⟨_, rfl, ?_⟩))
        go_meet
        case rel => exact ⟨_, (false), (by first | rfl | (simp; done) | (simp [*]; done)), H', ⟨by have := HJ3.out; first | omega | exact Nat.le_refl _⟩, ⟨by (with_reducible repeat (first | refine blk_drewN ?_ _ | refine blk_drew ?_ | refine blk_alloc ?_ _)); exact BK264.out⟩, ⟨by (with_reducible repeat (first | refine blk_drewN ?_ _ | refine blk_drew ?_ | refine blk_alloc ?_ _)); exact BK265.out⟩, ⟨by (with_reducible repeat (first | refine blk_drewN ?_ _ | refine blk_drew ?_ | refine blk_alloc ?_ _)); exact BK266.out⟩, ⟨tb⟩⟩
      case rest =>
        clear HC51
        try clear c1
        try clear c2
        try clear p2
        try clear c3
        try clear c4
        try clear c5
        try clear c6
        try clear c8
        try clear c8b0
        try clear c8b1
        try clear c9
        try clear c10
        try clear c11
        try clear c12
        try clear c12b0
        try clear c12b1
        try clear c13
        try clear c14
        try clear c16
        try clear c18
        try clear c18b0
        try clear c18b1
        try clear c19
        try clear c20
        try clear c22
        try clear c25
        try clear c25b0
        try clear c25b1
        try clear c26
        try clear c27
        try clear c29
        try clear c32
        try clear c32b0
        try clear c32b1
        try clear c33
        try clear c34
        try clear c36
        try clear c37
        try clear c39
        try clear c40
        try clear c42
        try clear c45
        try clear c57
        try clear c58
        try clear c59
        try clear c61
        try clear c63
        try clear c64
        try clear c66
        try clear hcz11_0
        try clear hcz11_1
        try clear hcz15_0
        try clear hcz15_1
        try clear hcz17_0
        try clear hcz17_1
        try clear hcz21_0
        try clear hcz21_1
        try clear hcz23_0
        try clear hcz23_1
        try clear hcz24_0
        try clear hcz24_1
        try clear hcz28_0
        try clear hcz28_1
        try clear hcz30_0
        try clear hcz30_1
        try clear hcz31_0
        try clear hcz31_1
        try clear hcz35_0
        try clear hcz35_1
        try clear hcz37_0
        try clear hcz37_1
        try clear hcz38_0
        try clear hcz38_1
        try clear hcz41_0
        try clear hcz41_1
        try clear hcz43_0
        try clear hcz43_1
        try clear hcz44_0
        try clear hcz44_1
        try clear hcz60_0
        try clear hcz60_1
        try clear hcz62_0
        try clear hcz62_1
        try clear hcz65_0
        try clear hcz65_1
        try clear hcz67_0
        try clear hcz67_1
        try clear hfz11_0
        try clear hfz11_1
        try clear hfz15_0
        try clear hfz15_1
        try clear hfz17_0
        try clear hfz17_1
        try clear hfz21_0
        try clear hfz21_1
        try clear hfz23_0
        try clear hfz23_1
        try clear hfz24_0
        try clear hfz24_1
        try clear hfz28_0
        try clear hfz28_1
        try clear hfz30_0
        try clear hfz30_1
        try clear hfz31_0
        try clear hfz31_1
        try clear hfz35_0
        try clear hfz35_1
        try clear hfz37_0
        try clear hfz37_1
        try clear hfz38_0
        try clear hfz38_1
        try clear hfz41_0
        try clear hfz41_1
        try clear hfz43_0
        try clear hfz43_1
        try clear hfz44_0
        try clear hfz44_1
        try clear hfz60_0
        try clear hfz60_1
        try clear hfz62_0
        try clear hfz62_1
        try clear hfz65_0
        try clear hfz65_1
        try clear hfz67_0
        try clear hfz67_1
        try clear p2
        obtain ⟨kq, x10_50, rfl, HA, HJ50, BK264, BK265, BK266, HB⟩ := hcut
        cases kq with
        | zero => exact absurd HA.out (by simp [tithebarnlaw13_VersionOrder.j1])
        | succ kj50 =>
          have H := HA.out
          clear HA
          simp only [tithebarnlaw13_VersionOrder.j1] at H
          replace H := Option.bind_eq_some_iff.mp H
          obtain ⟨t272, A680, H⟩ := H
          replace H : (if t268 = (wrap64 (-t272)) then (if ((t268 == 0) != x10_50) = true then (some false) else (if t268 < (-1) then (some false) else (if t268 > 1 then (some false) else (if t268 ≤ 0 then (if t269 ≤ 0 then (if t270 > 0 then (some false) else (if t268 < 0 then (if t270 ≥ 0 then (some false) else ((tithebarnlaw13_works.f).bind fun t273 => (some t273))) else ((tithebarnlaw13_works.f).bind fun t274 => (some t274)))) else (if t268 < 0 then ((tithebarnlaw13_works.f).bind fun t275 => (some t275)) else ((tithebarnlaw13_works.f).bind fun t276 => (some t276)))) else (if t268 < 0 then (if t269 ≤ 0 then (if t270 ≥ 0 then (some false) else ((tithebarnlaw13_works.f).bind fun t277 => (some t277))) else ((tithebarnlaw13_works.f).bind fun t278 => (some t278))) else ((tithebarnlaw13_works.f).bind fun t279 => (some t279))))))) else (some false)) = some r := H
          have A68 := Aside0.mk A680
          clear A680
          by_cases c69 : t268 = (wrap64 (-t272))
          rotate_left
          · rw [if_neg c69] at H
            have c69b0 : (t268 == (wrap64 (-t272))) = false := beq_eq_false_iff_ne.mpr c69
            have c69b1 : (t268 != (wrap64 (-t272))) = true := bne_iff_ne.mpr c69
            exact absurd ((Option.some.inj H).trans HRT.out) (by decide)
          rw [if_pos c69] at H
          have c69b0 : (t268 == (wrap64 (-t272))) = true := beq_iff_eq.mpr c69
          have c69b1 : (t268 != (wrap64 (-t272))) = false := bne_eq_false_iff_eq.mpr c69
          clear c69
          by_cases c70 : ((t268 == 0) != x10_50) = true
          · rw [if_pos c70] at H
            have c70b0 : ((t268 == 0) != x10_50) = true := c70
            (try (have c70b1 : decide ((t268 == 0) = x10_50) = false := by simpa using c70))
            (try (have c70b2 : ((t268 == 0) == x10_50) = false := by simpa using c70))
            (try (have c70b3 : ¬ ((t268 == 0) = x10_50) := by simpa using c70))
            clear c70
            exact absurd ((Option.some.inj H).trans HRT.out) (by decide)
          rw [if_neg c70] at H
          have c70b0 : ((t268 == 0) != x10_50) = false := by simpa using c70
          (try (have c70b1 : decide ((t268 == 0) = x10_50) = true := by simpa using c70))
          (try (have c70b2 : ((t268 == 0) == x10_50) = true := by simpa using c70))
          clear c70
          by_cases c77 : t268 < (-1)
          · rw [if_pos c77] at H
            have c77b0 : decide (t268 < (-1)) = true := decide_eq_true c77
            clear c77
            exact absurd ((Option.some.inj H).trans HRT.out) (by decide)
          rw [if_neg c77] at H
          have c77b0 : decide (t268 < (-1)) = false := decide_eq_false c77
          clear c77
          by_cases c84 : t268 > 1
          · rw [if_pos c84] at H
            have c84b0 : decide (1 < t268) = true := decide_eq_true c84
            clear c84
            exact absurd ((Option.some.inj H).trans HRT.out) (by decide)
          rw [if_neg c84] at H
          have c84b0 : decide (1 < t268) = false := decide_eq_false c84
          clear c84
          by_cases c91 : t268 ≤ 0
          rotate_left
          · rw [if_neg c91] at H
            have c91b0 : decide (t268 ≤ 0) = false := decide_eq_false c91
            clear c91
            by_cases c141 : t268 < 0
            rotate_left
            · rw [if_neg c141] at H
              have c141b0 : decide (t268 < 0) = false := decide_eq_false c141
              clear c141
              replace H := Option.bind_eq_some_iff.mp H
              obtain ⟨t279, A1660, H⟩ := H
              replace H : (some t279) = some r := H
              have A166 := Aside0.mk A1660
              clear A1660
              obtain rfl := Option.some.inj H
              have hnb167 := NB265_264.out
              have hnc167 := NB264_265.out
              have hnb168 := NB265_266.out
              have hnc168 := NB266_265.out
              have hcz169_0 : wc.cell? ⟨gb265, 0, none⟩ = some (.slice A1_0 l1_0.length c1_0) := (blk_cell BK265.out 0).trans rfl
              have hcz169_1 : wc.cell? ⟨gb265, 1, none⟩ = some (.string a1_1) := (blk_cell BK265.out 1).trans rfl
              have hfz169_0 := blk_frozen BK265.out 0
              have hfz169_1 := blk_frozen BK265.out 1
              have hnb170 := NB264_266.out
              have hnc170 := NB266_264.out
              have hcz171_0 : wc.cell? ⟨gb264, 0, none⟩ = some (.slice A0_0 l0_0.length c0_0) := (blk_cell BK264.out 0).trans rfl
              have hcz171_1 : wc.cell? ⟨gb264, 1, none⟩ = some (.string a0_1) := (blk_cell BK264.out 1).trans rfl
              have hfz171_0 := blk_frozen BK264.out 0
              have hfz171_1 := blk_frozen BK264.out 1
              go_wp2_with (first | ((with_reducible refine gate_callee (f := 45) rfl ?_); refine goesL_ (some 70) rfl rfl Tryz.func45 (by kernel_rfl) rfl #[.agg #[.slice A1_0 l1_0.length c1_0, .string a1_1], .agg #[.slice A0_0 l0_0.length c0_0, .string a0_1]] rfl (by (try simp only [List.map_toArray, List.map_cons, List.map_nil]); first | done | rfl | (simp only [List.length_drop, List.length_take]; rfl)) ?_; (with_reducible refine (version_Compare.calls _ _ l1_0 a1_1 _ _ l0_0 a0_1 t272 _ ?side1 ?side2 ?side3 ?side4 A68.out).mono ?_); (case side1 => repeat (first | exact (Kd.C_below HR1_0.out HB.out) | (with_reducible refine Kd.C_alloc ?_ _) | (with_reducible refine Kd.C_drewN ?_ _) | (with_reducible refine Kd.C_drew ?_))); (case side2 => exact HC1_0.out); (case side3 => repeat (first | exact (Kd.C_below HR0_0.out HB.out) | (with_reducible refine Kd.C_alloc ?_ _) | (with_reducible refine Kd.C_drewN ?_ _) | (with_reducible refine Kd.C_drew ?_))); (case side4 => exact HC0_0.out); rintro e w172 ⟨rfl, hb⟩; refine ⟨_, rfl, ?_⟩; have n0_ := Aside0.mk (blk_below (g := gb264) (o := .cells #[.slice A0_0 l0_0.length c0_0, .string a0_1] 24 (0, 0)) tk hb); have n1_ := Aside0.mk (blk_below (g := gb265) (o := .cells #[.slice A1_0 l1_0.length c1_0, .string a1_1] 24 (0, 0)) tk hb); have n2_ := Aside0.mk (blk_below (g := gb266) (o := .cells #[.slice A2_0 l2_0.length c2_0, .string a2_1] 24 (0, 0)) tk hb); have n3_ := Aside0.mk (below_step tb hb); clear BK264; clear BK265; clear BK266; clear HB; have BK264 := n0_; have BK265 := n1_; have BK266 := n2_; have HB := n3_; clear n0_ n1_ n2_ n3_; (try clear hb); (try clear hb2); (try clear hk); (try clear hi)) | (go_at_call 11; (with_reducible refine (tithebarnlaw13_works.calls  t279 _ ?side1 A166.out).mono ?_); (case side1 => exact VTabs.below HTabs.out tb); rintro e w173 ⟨rfl, hb⟩; have n0_ := Aside0.mk (blk_below (g := gb264) (o := .cells #[.slice A0_0 l0_0.length c0_0, .string a0_1] 24 (0, 0)) tk hb); have n1_ := Aside0.mk (blk_below (g := gb265) (o := .cells #[.slice A1_0 l1_0.length c1_0, .string a1_1] 24 (0, 0)) tk hb); have n2_ := Aside0.mk (blk_below (g := gb266) (o := .cells #[.slice A2_0 l2_0.length c2_0, .string a2_1] 24 (0, 0)) tk hb); have n3_ := Aside0.mk (below_step tb hb); clear BK264; clear BK265; clear BK266; clear HB; have BK264 := n0_; have BK265 := n1_; have BK266 := n2_; have HB := n3_; clear n0_ n1_ n2_ n3_; (try clear hb); (try clear hb2); (try clear hk); (try clear hi)))
              go_ret
              exact ⟨by first | rfl | (simp [errW_none, errW_some] <;> rfl) | (simp [*, errW_none, errW_some] <;> rfl), tb⟩
            rw [if_pos c141] at H
            have c141b0 : decide (t268 < 0) = true := decide_eq_true c141
            clear c141
            by_cases c142 : t269 ≤ 0
            rotate_left
            · rw [if_neg c142] at H
              have c142b0 : decide (t269 ≤ 0) = false := decide_eq_false c142
              clear c142
              replace H := Option.bind_eq_some_iff.mp H
              obtain ⟨t278, A1580, H⟩ := H
              replace H : (some t278) = some r := H
              have A158 := Aside0.mk A1580
              clear A1580
              obtain rfl := Option.some.inj H
              have hnb159 := NB265_264.out
              have hnc159 := NB264_265.out
              have hnb160 := NB265_266.out
              have hnc160 := NB266_265.out
              have hcz161_0 : wc.cell? ⟨gb265, 0, none⟩ = some (.slice A1_0 l1_0.length c1_0) := (blk_cell BK265.out 0).trans rfl
              have hcz161_1 : wc.cell? ⟨gb265, 1, none⟩ = some (.string a1_1) := (blk_cell BK265.out 1).trans rfl
              have hfz161_0 := blk_frozen BK265.out 0
              have hfz161_1 := blk_frozen BK265.out 1
              have hnb162 := NB264_266.out
              have hnc162 := NB266_264.out
              have hcz163_0 : wc.cell? ⟨gb264, 0, none⟩ = some (.slice A0_0 l0_0.length c0_0) := (blk_cell BK264.out 0).trans rfl
              have hcz163_1 : wc.cell? ⟨gb264, 1, none⟩ = some (.string a0_1) := (blk_cell BK264.out 1).trans rfl
              have hfz163_0 := blk_frozen BK264.out 0
              have hfz163_1 := blk_frozen BK264.out 1
              go_wp2_with (first | ((with_reducible refine gate_callee (f := 45) rfl ?_); refine goesL_ (some 70) rfl rfl Tryz.func45 (by kernel_rfl) rfl #[.agg #[.slice A1_0 l1_0.length c1_0, .string a1_1], .agg #[.slice A0_0 l0_0.length c0_0, .string a0_1]] rfl (by (try simp only [List.map_toArray, List.map_cons, List.map_nil]); first | done | rfl | (simp only [List.length_drop, List.length_take]; rfl)) ?_; (with_reducible refine (version_Compare.calls _ _ l1_0 a1_1 _ _ l0_0 a0_1 t272 _ ?side1 ?side2 ?side3 ?side4 A68.out).mono ?_); (case side1 => repeat (first | exact (Kd.C_below HR1_0.out HB.out) | (with_reducible refine Kd.C_alloc ?_ _) | (with_reducible refine Kd.C_drewN ?_ _) | (with_reducible refine Kd.C_drew ?_))); (case side2 => exact HC1_0.out); (case side3 => repeat (first | exact (Kd.C_below HR0_0.out HB.out) | (with_reducible refine Kd.C_alloc ?_ _) | (with_reducible refine Kd.C_drewN ?_ _) | (with_reducible refine Kd.C_drew ?_))); (case side4 => exact HC0_0.out); rintro e w164 ⟨rfl, hb⟩; refine ⟨_, rfl, ?_⟩; have n0_ := Aside0.mk (blk_below (g := gb264) (o := .cells #[.slice A0_0 l0_0.length c0_0, .string a0_1] 24 (0, 0)) tk hb); have n1_ := Aside0.mk (blk_below (g := gb265) (o := .cells #[.slice A1_0 l1_0.length c1_0, .string a1_1] 24 (0, 0)) tk hb); have n2_ := Aside0.mk (blk_below (g := gb266) (o := .cells #[.slice A2_0 l2_0.length c2_0, .string a2_1] 24 (0, 0)) tk hb); have n3_ := Aside0.mk (below_step tb hb); clear BK264; clear BK265; clear BK266; clear HB; have BK264 := n0_; have BK265 := n1_; have BK266 := n2_; have HB := n3_; clear n0_ n1_ n2_ n3_; (try clear hb); (try clear hb2); (try clear hk); (try clear hi)) | (go_at_call 11; (with_reducible refine (tithebarnlaw13_works.calls  t278 _ ?side1 A158.out).mono ?_); (case side1 => exact VTabs.below HTabs.out tb); rintro e w165 ⟨rfl, hb⟩; have n0_ := Aside0.mk (blk_below (g := gb264) (o := .cells #[.slice A0_0 l0_0.length c0_0, .string a0_1] 24 (0, 0)) tk hb); have n1_ := Aside0.mk (blk_below (g := gb265) (o := .cells #[.slice A1_0 l1_0.length c1_0, .string a1_1] 24 (0, 0)) tk hb); have n2_ := Aside0.mk (blk_below (g := gb266) (o := .cells #[.slice A2_0 l2_0.length c2_0, .string a2_1] 24 (0, 0)) tk hb); have n3_ := Aside0.mk (below_step tb hb); clear BK264; clear BK265; clear BK266; clear HB; have BK264 := n0_; have BK265 := n1_; have BK266 := n2_; have HB := n3_; clear n0_ n1_ n2_ n3_; (try clear hb); (try clear hb2); (try clear hk); (try clear hi)))
              go_ret
              exact ⟨by first | rfl | (simp [errW_none, errW_some] <;> rfl) | (simp [*, errW_none, errW_some] <;> rfl), tb⟩
            rw [if_pos c142] at H
            have c142b0 : decide (t269 ≤ 0) = true := decide_eq_true c142
            clear c142
            by_cases c143 : t270 ≥ 0
            · rw [if_pos c143] at H
              have c143b0 : decide (0 ≤ t270) = true := decide_eq_true c143
              clear c143
              exact absurd ((Option.some.inj H).trans HRT.out) (by decide)
            rw [if_neg c143] at H
            have c143b0 : decide (0 ≤ t270) = false := decide_eq_false c143
            clear c143
            replace H := Option.bind_eq_some_iff.mp H
            obtain ⟨t277, A1500, H⟩ := H
            replace H : (some t277) = some r := H
            have A150 := Aside0.mk A1500
            clear A1500
            obtain rfl := Option.some.inj H
            have hnb151 := NB265_264.out
            have hnc151 := NB264_265.out
            have hnb152 := NB265_266.out
            have hnc152 := NB266_265.out
            have hcz153_0 : wc.cell? ⟨gb265, 0, none⟩ = some (.slice A1_0 l1_0.length c1_0) := (blk_cell BK265.out 0).trans rfl
            have hcz153_1 : wc.cell? ⟨gb265, 1, none⟩ = some (.string a1_1) := (blk_cell BK265.out 1).trans rfl
            have hfz153_0 := blk_frozen BK265.out 0
            have hfz153_1 := blk_frozen BK265.out 1
            have hnb154 := NB264_266.out
            have hnc154 := NB266_264.out
            have hcz155_0 : wc.cell? ⟨gb264, 0, none⟩ = some (.slice A0_0 l0_0.length c0_0) := (blk_cell BK264.out 0).trans rfl
            have hcz155_1 : wc.cell? ⟨gb264, 1, none⟩ = some (.string a0_1) := (blk_cell BK264.out 1).trans rfl
            have hfz155_0 := blk_frozen BK264.out 0
            have hfz155_1 := blk_frozen BK264.out 1
            go_wp2_with (first | ((with_reducible refine gate_callee (f := 45) rfl ?_); refine goesL_ (some 70) rfl rfl Tryz.func45 (by kernel_rfl) rfl #[.agg #[.slice A1_0 l1_0.length c1_0, .string a1_1], .agg #[.slice A0_0 l0_0.length c0_0, .string a0_1]] rfl (by (try simp only [List.map_toArray, List.map_cons, List.map_nil]); first | done | rfl | (simp only [List.length_drop, List.length_take]; rfl)) ?_; (with_reducible refine (version_Compare.calls _ _ l1_0 a1_1 _ _ l0_0 a0_1 t272 _ ?side1 ?side2 ?side3 ?side4 A68.out).mono ?_); (case side1 => repeat (first | exact (Kd.C_below HR1_0.out HB.out) | (with_reducible refine Kd.C_alloc ?_ _) | (with_reducible refine Kd.C_drewN ?_ _) | (with_reducible refine Kd.C_drew ?_))); (case side2 => exact HC1_0.out); (case side3 => repeat (first | exact (Kd.C_below HR0_0.out HB.out) | (with_reducible refine Kd.C_alloc ?_ _) | (with_reducible refine Kd.C_drewN ?_ _) | (with_reducible refine Kd.C_drew ?_))); (case side4 => exact HC0_0.out); rintro e w156 ⟨rfl, hb⟩; refine ⟨_, rfl, ?_⟩; have n0_ := Aside0.mk (blk_below (g := gb264) (o := .cells #[.slice A0_0 l0_0.length c0_0, .string a0_1] 24 (0, 0)) tk hb); have n1_ := Aside0.mk (blk_below (g := gb265) (o := .cells #[.slice A1_0 l1_0.length c1_0, .string a1_1] 24 (0, 0)) tk hb); have n2_ := Aside0.mk (blk_below (g := gb266) (o := .cells #[.slice A2_0 l2_0.length c2_0, .string a2_1] 24 (0, 0)) tk hb); have n3_ := Aside0.mk (below_step tb hb); clear BK264; clear BK265; clear BK266; clear HB; have BK264 := n0_; have BK265 := n1_; have BK266 := n2_; have HB := n3_; clear n0_ n1_ n2_ n3_; (try clear hb); (try clear hb2); (try clear hk); (try clear hi)) | (go_at_call 11; (with_reducible refine (tithebarnlaw13_works.calls  t277 _ ?side1 A150.out).mono ?_); (case side1 => exact VTabs.below HTabs.out tb); rintro e w157 ⟨rfl, hb⟩; have n0_ := Aside0.mk (blk_below (g := gb264) (o := .cells #[.slice A0_0 l0_0.length c0_0, .string a0_1] 24 (0, 0)) tk hb); have n1_ := Aside0.mk (blk_below (g := gb265) (o := .cells #[.slice A1_0 l1_0.length c1_0, .string a1_1] 24 (0, 0)) tk hb); have n2_ := Aside0.mk (blk_below (g := gb266) (o := .cells #[.slice A2_0 l2_0.length c2_0, .string a2_1] 24 (0, 0)) tk hb); have n3_ := Aside0.mk (below_step tb hb); clear BK264; clear BK265; clear BK266; clear HB; have BK264 := n0_; have BK265 := n1_; have BK266 := n2_; have HB := n3_; clear n0_ n1_ n2_ n3_; (try clear hb); (try clear hb2); (try clear hk); (try clear hi)))
            go_ret
            exact ⟨by first | rfl | (simp [errW_none, errW_some] <;> rfl) | (simp [*, errW_none, errW_some] <;> rfl), tb⟩
          rw [if_pos c91] at H
          have c91b0 : decide (t268 ≤ 0) = true := decide_eq_true c91
          clear c91
          by_cases c92 : t269 ≤ 0
          rotate_left
          · rw [if_neg c92] at H
            have c92b0 : decide (t269 ≤ 0) = false := decide_eq_false c92
            clear c92
            by_cases c124 : t268 < 0
            · rw [if_pos c124] at H
              have c124b0 : decide (t268 < 0) = true := decide_eq_true c124
              clear c124
              replace H := Option.bind_eq_some_iff.mp H
              obtain ⟨t275, A1250, H⟩ := H
              replace H : (some t275) = some r := H
              have A125 := Aside0.mk A1250
              clear A1250
              obtain rfl := Option.some.inj H
              have hnb126 := NB265_264.out
              have hnc126 := NB264_265.out
              have hnb127 := NB265_266.out
              have hnc127 := NB266_265.out
              have hcz128_0 : wc.cell? ⟨gb265, 0, none⟩ = some (.slice A1_0 l1_0.length c1_0) := (blk_cell BK265.out 0).trans rfl
              have hcz128_1 : wc.cell? ⟨gb265, 1, none⟩ = some (.string a1_1) := (blk_cell BK265.out 1).trans rfl
              have hfz128_0 := blk_frozen BK265.out 0
              have hfz128_1 := blk_frozen BK265.out 1
              have hnb129 := NB264_266.out
              have hnc129 := NB266_264.out
              have hcz130_0 : wc.cell? ⟨gb264, 0, none⟩ = some (.slice A0_0 l0_0.length c0_0) := (blk_cell BK264.out 0).trans rfl
              have hcz130_1 : wc.cell? ⟨gb264, 1, none⟩ = some (.string a0_1) := (blk_cell BK264.out 1).trans rfl
              have hfz130_0 := blk_frozen BK264.out 0
              have hfz130_1 := blk_frozen BK264.out 1
              go_wp2_with (first | ((with_reducible refine gate_callee (f := 45) rfl ?_); refine goesL_ (some 70) rfl rfl Tryz.func45 (by kernel_rfl) rfl #[.agg #[.slice A1_0 l1_0.length c1_0, .string a1_1], .agg #[.slice A0_0 l0_0.length c0_0, .string a0_1]] rfl (by (try simp only [List.map_toArray, List.map_cons, List.map_nil]); first | done | rfl | (simp only [List.length_drop, List.length_take]; rfl)) ?_; (with_reducible refine (version_Compare.calls _ _ l1_0 a1_1 _ _ l0_0 a0_1 t272 _ ?side1 ?side2 ?side3 ?side4 A68.out).mono ?_); (case side1 => repeat (first | exact (Kd.C_below HR1_0.out HB.out) | (with_reducible refine Kd.C_alloc ?_ _) | (with_reducible refine Kd.C_drewN ?_ _) | (with_reducible refine Kd.C_drew ?_))); (case side2 => exact HC1_0.out); (case side3 => repeat (first | exact (Kd.C_below HR0_0.out HB.out) | (with_reducible refine Kd.C_alloc ?_ _) | (with_reducible refine Kd.C_drewN ?_ _) | (with_reducible refine Kd.C_drew ?_))); (case side4 => exact HC0_0.out); rintro e w131 ⟨rfl, hb⟩; refine ⟨_, rfl, ?_⟩; have n0_ := Aside0.mk (blk_below (g := gb264) (o := .cells #[.slice A0_0 l0_0.length c0_0, .string a0_1] 24 (0, 0)) tk hb); have n1_ := Aside0.mk (blk_below (g := gb265) (o := .cells #[.slice A1_0 l1_0.length c1_0, .string a1_1] 24 (0, 0)) tk hb); have n2_ := Aside0.mk (blk_below (g := gb266) (o := .cells #[.slice A2_0 l2_0.length c2_0, .string a2_1] 24 (0, 0)) tk hb); have n3_ := Aside0.mk (below_step tb hb); clear BK264; clear BK265; clear BK266; clear HB; have BK264 := n0_; have BK265 := n1_; have BK266 := n2_; have HB := n3_; clear n0_ n1_ n2_ n3_; (try clear hb); (try clear hb2); (try clear hk); (try clear hi)) | (go_at_call 11; (with_reducible refine (tithebarnlaw13_works.calls  t275 _ ?side1 A125.out).mono ?_); (case side1 => exact VTabs.below HTabs.out tb); rintro e w132 ⟨rfl, hb⟩; have n0_ := Aside0.mk (blk_below (g := gb264) (o := .cells #[.slice A0_0 l0_0.length c0_0, .string a0_1] 24 (0, 0)) tk hb); have n1_ := Aside0.mk (blk_below (g := gb265) (o := .cells #[.slice A1_0 l1_0.length c1_0, .string a1_1] 24 (0, 0)) tk hb); have n2_ := Aside0.mk (blk_below (g := gb266) (o := .cells #[.slice A2_0 l2_0.length c2_0, .string a2_1] 24 (0, 0)) tk hb); have n3_ := Aside0.mk (below_step tb hb); clear BK264; clear BK265; clear BK266; clear HB; have BK264 := n0_; have BK265 := n1_; have BK266 := n2_; have HB := n3_; clear n0_ n1_ n2_ n3_; (try clear hb); (try clear hb2); (try clear hk); (try clear hi)))
              go_ret
              exact ⟨by first | rfl | (simp [errW_none, errW_some] <;> rfl) | (simp [*, errW_none, errW_some] <;> rfl), tb⟩
            rw [if_neg c124] at H
            have c124b0 : decide (t268 < 0) = false := decide_eq_false c124
            clear c124
            replace H := Option.bind_eq_some_iff.mp H
            obtain ⟨t276, A1330, H⟩ := H
            replace H : (some t276) = some r := H
            have A133 := Aside0.mk A1330
            clear A1330
            obtain rfl := Option.some.inj H
            have hnb134 := NB265_264.out
            have hnc134 := NB264_265.out
            have hnb135 := NB265_266.out
            have hnc135 := NB266_265.out
            have hcz136_0 : wc.cell? ⟨gb265, 0, none⟩ = some (.slice A1_0 l1_0.length c1_0) := (blk_cell BK265.out 0).trans rfl
            have hcz136_1 : wc.cell? ⟨gb265, 1, none⟩ = some (.string a1_1) := (blk_cell BK265.out 1).trans rfl
            have hfz136_0 := blk_frozen BK265.out 0
            have hfz136_1 := blk_frozen BK265.out 1
            have hnb137 := NB264_266.out
            have hnc137 := NB266_264.out
            have hcz138_0 : wc.cell? ⟨gb264, 0, none⟩ = some (.slice A0_0 l0_0.length c0_0) := (blk_cell BK264.out 0).trans rfl
            have hcz138_1 : wc.cell? ⟨gb264, 1, none⟩ = some (.string a0_1) := (blk_cell BK264.out 1).trans rfl
            have hfz138_0 := blk_frozen BK264.out 0
            have hfz138_1 := blk_frozen BK264.out 1
            go_wp2_with (first | ((with_reducible refine gate_callee (f := 45) rfl ?_); refine goesL_ (some 70) rfl rfl Tryz.func45 (by kernel_rfl) rfl #[.agg #[.slice A1_0 l1_0.length c1_0, .string a1_1], .agg #[.slice A0_0 l0_0.length c0_0, .string a0_1]] rfl (by (try simp only [List.map_toArray, List.map_cons, List.map_nil]); first | done | rfl | (simp only [List.length_drop, List.length_take]; rfl)) ?_; (with_reducible refine (version_Compare.calls _ _ l1_0 a1_1 _ _ l0_0 a0_1 t272 _ ?side1 ?side2 ?side3 ?side4 A68.out).mono ?_); (case side1 => repeat (first | exact (Kd.C_below HR1_0.out HB.out) | (with_reducible refine Kd.C_alloc ?_ _) | (with_reducible refine Kd.C_drewN ?_ _) | (with_reducible refine Kd.C_drew ?_))); (case side2 => exact HC1_0.out); (case side3 => repeat (first | exact (Kd.C_below HR0_0.out HB.out) | (with_reducible refine Kd.C_alloc ?_ _) | (with_reducible refine Kd.C_drewN ?_ _) | (with_reducible refine Kd.C_drew ?_))); (case side4 => exact HC0_0.out); rintro e w139 ⟨rfl, hb⟩; refine ⟨_, rfl, ?_⟩; have n0_ := Aside0.mk (blk_below (g := gb264) (o := .cells #[.slice A0_0 l0_0.length c0_0, .string a0_1] 24 (0, 0)) tk hb); have n1_ := Aside0.mk (blk_below (g := gb265) (o := .cells #[.slice A1_0 l1_0.length c1_0, .string a1_1] 24 (0, 0)) tk hb); have n2_ := Aside0.mk (blk_below (g := gb266) (o := .cells #[.slice A2_0 l2_0.length c2_0, .string a2_1] 24 (0, 0)) tk hb); have n3_ := Aside0.mk (below_step tb hb); clear BK264; clear BK265; clear BK266; clear HB; have BK264 := n0_; have BK265 := n1_; have BK266 := n2_; have HB := n3_; clear n0_ n1_ n2_ n3_; (try clear hb); (try clear hb2); (try clear hk); (try clear hi)) | (go_at_call 11; (with_reducible refine (tithebarnlaw13_works.calls  t276 _ ?side1 A133.out).mono ?_); (case side1 => exact VTabs.below HTabs.out tb); rintro e w140 ⟨rfl, hb⟩; have n0_ := Aside0.mk (blk_below (g := gb264) (o := .cells #[.slice A0_0 l0_0.length c0_0, .string a0_1] 24 (0, 0)) tk hb); have n1_ := Aside0.mk (blk_below (g := gb265) (o := .cells #[.slice A1_0 l1_0.length c1_0, .string a1_1] 24 (0, 0)) tk hb); have n2_ := Aside0.mk (blk_below (g := gb266) (o := .cells #[.slice A2_0 l2_0.length c2_0, .string a2_1] 24 (0, 0)) tk hb); have n3_ := Aside0.mk (below_step tb hb); clear BK264; clear BK265; clear BK266; clear HB; have BK264 := n0_; have BK265 := n1_; have BK266 := n2_; have HB := n3_; clear n0_ n1_ n2_ n3_; (try clear hb); (try clear hb2); (try clear hk); (try clear hi)))
            go_ret
            exact ⟨by first | rfl | (simp [errW_none, errW_some] <;> rfl) | (simp [*, errW_none, errW_some] <;> rfl), tb⟩
          rw [if_pos c92] at H
          have c92b0 : decide (t269 ≤ 0) = true := decide_eq_true c92
          clear c92
          by_cases c93 : t270 > 0
          · rw [if_pos c93] at H
            have c93b0 : decide (0 < t270) = true := decide_eq_true c93
            clear c93
            exact absurd ((Option.some.inj H).trans HRT.out) (by decide)
          rw [if_neg c93] at H
          have c93b0 : decide (0 < t270) = false := decide_eq_false c93
          clear c93
          by_cases c100 : t268 < 0
          rotate_left
          · rw [if_neg c100] at H
            have c100b0 : decide (t268 < 0) = false := decide_eq_false c100
            clear c100
            replace H := Option.bind_eq_some_iff.mp H
            obtain ⟨t274, A1160, H⟩ := H
            replace H : (some t274) = some r := H
            have A116 := Aside0.mk A1160
            clear A1160
            obtain rfl := Option.some.inj H
            have hnb117 := NB265_264.out
            have hnc117 := NB264_265.out
            have hnb118 := NB265_266.out
            have hnc118 := NB266_265.out
            have hcz119_0 : wc.cell? ⟨gb265, 0, none⟩ = some (.slice A1_0 l1_0.length c1_0) := (blk_cell BK265.out 0).trans rfl
            have hcz119_1 : wc.cell? ⟨gb265, 1, none⟩ = some (.string a1_1) := (blk_cell BK265.out 1).trans rfl
            have hfz119_0 := blk_frozen BK265.out 0
            have hfz119_1 := blk_frozen BK265.out 1
            have hnb120 := NB264_266.out
            have hnc120 := NB266_264.out
            have hcz121_0 : wc.cell? ⟨gb264, 0, none⟩ = some (.slice A0_0 l0_0.length c0_0) := (blk_cell BK264.out 0).trans rfl
            have hcz121_1 : wc.cell? ⟨gb264, 1, none⟩ = some (.string a0_1) := (blk_cell BK264.out 1).trans rfl
            have hfz121_0 := blk_frozen BK264.out 0
            have hfz121_1 := blk_frozen BK264.out 1
            go_wp2_with (first | ((with_reducible refine gate_callee (f := 45) rfl ?_); refine goesL_ (some 70) rfl rfl Tryz.func45 (by kernel_rfl) rfl #[.agg #[.slice A1_0 l1_0.length c1_0, .string a1_1], .agg #[.slice A0_0 l0_0.length c0_0, .string a0_1]] rfl (by (try simp only [List.map_toArray, List.map_cons, List.map_nil]); first | done | rfl | (simp only [List.length_drop, List.length_take]; rfl)) ?_; (with_reducible refine (version_Compare.calls _ _ l1_0 a1_1 _ _ l0_0 a0_1 t272 _ ?side1 ?side2 ?side3 ?side4 A68.out).mono ?_); (case side1 => repeat (first | exact (Kd.C_below HR1_0.out HB.out) | (with_reducible refine Kd.C_alloc ?_ _) | (with_reducible refine Kd.C_drewN ?_ _) | (with_reducible refine Kd.C_drew ?_))); (case side2 => exact HC1_0.out); (case side3 => repeat (first | exact (Kd.C_below HR0_0.out HB.out) | (with_reducible refine Kd.C_alloc ?_ _) | (with_reducible refine Kd.C_drewN ?_ _) | (with_reducible refine Kd.C_drew ?_))); (case side4 => exact HC0_0.out); rintro e w122 ⟨rfl, hb⟩; refine ⟨_, rfl, ?_⟩; have n0_ := Aside0.mk (blk_below (g := gb264) (o := .cells #[.slice A0_0 l0_0.length c0_0, .string a0_1] 24 (0, 0)) tk hb); have n1_ := Aside0.mk (blk_below (g := gb265) (o := .cells #[.slice A1_0 l1_0.length c1_0, .string a1_1] 24 (0, 0)) tk hb); have n2_ := Aside0.mk (blk_below (g := gb266) (o := .cells #[.slice A2_0 l2_0.length c2_0, .string a2_1] 24 (0, 0)) tk hb); have n3_ := Aside0.mk (below_step tb hb); clear BK264; clear BK265; clear BK266; clear HB; have BK264 := n0_; have BK265 := n1_; have BK266 := n2_; have HB := n3_; clear n0_ n1_ n2_ n3_; (try clear hb); (try clear hb2); (try clear hk); (try clear hi)) | (go_at_call 11; (with_reducible refine (tithebarnlaw13_works.calls  t274 _ ?side1 A116.out).mono ?_); (case side1 => exact VTabs.below HTabs.out tb); rintro e w123 ⟨rfl, hb⟩; have n0_ := Aside0.mk (blk_below (g := gb264) (o := .cells #[.slice A0_0 l0_0.length c0_0, .string a0_1] 24 (0, 0)) tk hb); have n1_ := Aside0.mk (blk_below (g := gb265) (o := .cells #[.slice A1_0 l1_0.length c1_0, .string a1_1] 24 (0, 0)) tk hb); have n2_ := Aside0.mk (blk_below (g := gb266) (o := .cells #[.slice A2_0 l2_0.length c2_0, .string a2_1] 24 (0, 0)) tk hb); have n3_ := Aside0.mk (below_step tb hb); clear BK264; clear BK265; clear BK266; clear HB; have BK264 := n0_; have BK265 := n1_; have BK266 := n2_; have HB := n3_; clear n0_ n1_ n2_ n3_; (try clear hb); (try clear hb2); (try clear hk); (try clear hi)))
            go_ret
            exact ⟨by first | rfl | (simp [errW_none, errW_some] <;> rfl) | (simp [*, errW_none, errW_some] <;> rfl), tb⟩
          rw [if_pos c100] at H
          have c100b0 : decide (t268 < 0) = true := decide_eq_true c100
          clear c100
          by_cases c101 : t270 ≥ 0
          · rw [if_pos c101] at H
            have c101b0 : decide (0 ≤ t270) = true := decide_eq_true c101
            clear c101
            exact absurd ((Option.some.inj H).trans HRT.out) (by decide)
          rw [if_neg c101] at H
          have c101b0 : decide (0 ≤ t270) = false := decide_eq_false c101
          clear c101
          replace H := Option.bind_eq_some_iff.mp H
          obtain ⟨t273, A1080, H⟩ := H
          replace H : (some t273) = some r := H
          have A108 := Aside0.mk A1080
          clear A1080
          obtain rfl := Option.some.inj H
          have hnb109 := NB265_264.out
          have hnc109 := NB264_265.out
          have hnb110 := NB265_266.out
          have hnc110 := NB266_265.out
          have hcz111_0 : wc.cell? ⟨gb265, 0, none⟩ = some (.slice A1_0 l1_0.length c1_0) := (blk_cell BK265.out 0).trans rfl
          have hcz111_1 : wc.cell? ⟨gb265, 1, none⟩ = some (.string a1_1) := (blk_cell BK265.out 1).trans rfl
          have hfz111_0 := blk_frozen BK265.out 0
          have hfz111_1 := blk_frozen BK265.out 1
          have hnb112 := NB264_266.out
          have hnc112 := NB266_264.out
          have hcz113_0 : wc.cell? ⟨gb264, 0, none⟩ = some (.slice A0_0 l0_0.length c0_0) := (blk_cell BK264.out 0).trans rfl
          have hcz113_1 : wc.cell? ⟨gb264, 1, none⟩ = some (.string a0_1) := (blk_cell BK264.out 1).trans rfl
          have hfz113_0 := blk_frozen BK264.out 0
          have hfz113_1 := blk_frozen BK264.out 1
          go_wp2_with (first | ((with_reducible refine gate_callee (f := 45) rfl ?_); refine goesL_ (some 70) rfl rfl Tryz.func45 (by kernel_rfl) rfl #[.agg #[.slice A1_0 l1_0.length c1_0, .string a1_1], .agg #[.slice A0_0 l0_0.length c0_0, .string a0_1]] rfl (by (try simp only [List.map_toArray, List.map_cons, List.map_nil]); first | done | rfl | (simp only [List.length_drop, List.length_take]; rfl)) ?_; (with_reducible refine (version_Compare.calls _ _ l1_0 a1_1 _ _ l0_0 a0_1 t272 _ ?side1 ?side2 ?side3 ?side4 A68.out).mono ?_); (case side1 => repeat (first | exact (Kd.C_below HR1_0.out HB.out) | (with_reducible refine Kd.C_alloc ?_ _) | (with_reducible refine Kd.C_drewN ?_ _) | (with_reducible refine Kd.C_drew ?_))); (case side2 => exact HC1_0.out); (case side3 => repeat (first | exact (Kd.C_below HR0_0.out HB.out) | (with_reducible refine Kd.C_alloc ?_ _) | (with_reducible refine Kd.C_drewN ?_ _) | (with_reducible refine Kd.C_drew ?_))); (case side4 => exact HC0_0.out); rintro e w114 ⟨rfl, hb⟩; refine ⟨_, rfl, ?_⟩; have n0_ := Aside0.mk (blk_below (g := gb264) (o := .cells #[.slice A0_0 l0_0.length c0_0, .string a0_1] 24 (0, 0)) tk hb); have n1_ := Aside0.mk (blk_below (g := gb265) (o := .cells #[.slice A1_0 l1_0.length c1_0, .string a1_1] 24 (0, 0)) tk hb); have n2_ := Aside0.mk (blk_below (g := gb266) (o := .cells #[.slice A2_0 l2_0.length c2_0, .string a2_1] 24 (0, 0)) tk hb); have n3_ := Aside0.mk (below_step tb hb); clear BK264; clear BK265; clear BK266; clear HB; have BK264 := n0_; have BK265 := n1_; have BK266 := n2_; have HB := n3_; clear n0_ n1_ n2_ n3_; (try clear hb); (try clear hb2); (try clear hk); (try clear hi)) | (go_at_call 11; (with_reducible refine (tithebarnlaw13_works.calls  t273 _ ?side1 A108.out).mono ?_); (case side1 => exact VTabs.below HTabs.out tb); rintro e w115 ⟨rfl, hb⟩; have n0_ := Aside0.mk (blk_below (g := gb264) (o := .cells #[.slice A0_0 l0_0.length c0_0, .string a0_1] 24 (0, 0)) tk hb); have n1_ := Aside0.mk (blk_below (g := gb265) (o := .cells #[.slice A1_0 l1_0.length c1_0, .string a1_1] 24 (0, 0)) tk hb); have n2_ := Aside0.mk (blk_below (g := gb266) (o := .cells #[.slice A2_0 l2_0.length c2_0, .string a2_1] 24 (0, 0)) tk hb); have n3_ := Aside0.mk (below_step tb hb); clear BK264; clear BK265; clear BK266; clear HB; have BK264 := n0_; have BK265 := n1_; have BK266 := n2_; have HB := n3_; clear n0_ n1_ n2_ n3_; (try clear hb); (try clear hb2); (try clear hk); (try clear hi)))
          go_ret
          exact ⟨by first | rfl | (simp [errW_none, errW_some] <;> rfl) | (simp [*, errW_none, errW_some] <;> rfl), tb⟩
end Go.Proofs.YtnbmdecehlljcaaGreatDoor.PVer
