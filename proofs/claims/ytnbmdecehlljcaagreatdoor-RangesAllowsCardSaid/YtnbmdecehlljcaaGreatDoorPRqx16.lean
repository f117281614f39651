-- Laid by a program of this session (wip/tools/pgiven.py) out of the seat's translation. Lean checks it.
import Derived.Test.YtnbmdecehlljcaaGreatDoorPRqx0
namespace Go.Proofs.YtnbmdecehlljcaaGreatDoor.PRq
open Go.RowKit Go.Proofs.YtnbmdecehlljcaaGreatDoorW.PrintWords Go.Proofs.YtnbmdecehlljcaaGreatDoorW.PrintLast Go.Proofs.YtnbmdecehlljcaaGreatDoorW.PrintMore
attribute [local go_sem] max2_int min2_int max_two min_two max_three min_three max_four min_four   -- for this text's walks alone
set_option linter.unusedVariables false
set_option linter.unusedSimpArgs false

attribute [local go_sem] isSome_setCellV
/-! ### tithebarnref13_Compare: function 48 -/
mutual
def tithebarnref13_Compare.l0 : Nat → Int → List Int → ByteArray → List Int → ByteArray → Option (Int)
 | 0, _, _, _, _, _ => none
 | k + 1, x5, x238000, x238001, x239000, x239001 => if x5 < (x238000.length : Int) then (tithebarnref13_Compare.j1 k x5 (decide (x5 < (x239000.length : Int))) x238000 x238001 x239000 x239001) else (tithebarnref13_Compare.j1 k x5 false x238000 x238001 x239000 x239001)
def tithebarnref13_Compare.j1 : Nat → Int → Bool → List Int → ByteArray → List Int → ByteArray → Option (Int)
 | 0, _, _, _, _, _, _ => none
 | k + 1, x5, x17, x238000, x238001, x239000, x239001 => if x17 = true then (if 0 ≤ x5 then (if x5 < (x238000.length : Int) then (if x5 < (x239000.length : Int) then (if (rd x238000 x5) < (rd x239000 x5) then (some (-1)) else (if (rd x238000 x5) > (rd x239000 x5) then (some 1) else (tithebarnref13_Compare.l0 k (wrap64 (x5 + 1)) x238000 x238001 x239000 x239001))) else (none)) else (none)) else (none)) else (if (x238000.length : Int) < (x239000.length : Int) then (some (-1)) else (if (x238000.length : Int) > (x239000.length : Int) then (some 1) else (if x238001.toList = x239001.toList then (some 0) else (if x238001.toList = ([] : List UInt8) then (some 1) else (if x239001.toList = ([] : List UInt8) then (some (-1)) else (if (Op.bytesLess x238001.toList x239001.toList) = true then (some (-1)) else (some 1)))))))
end
def tithebarnref13_Compare.f (k : Nat) (l0_0 : List Int) (a0_1 : ByteArray) (l1_0 : List Int) (a1_1 : ByteArray) : Option (Int) := tithebarnref13_Compare.l0 k 0 l0_0 a0_1 l1_0 a1_1
theorem tithebarnref13_Compare.mono_l : ∀ k, (∀ y0 y1 y2 y3 y4, LeO (tithebarnref13_Compare.l0 k y0 y1 y2 y3 y4) (tithebarnref13_Compare.l0 (k + 1) y0 y1 y2 y3 y4)) ∧ (∀ y0 y1 y2 y3 y4 y5, LeO (tithebarnref13_Compare.j1 k y0 y1 y2 y3 y4 y5) (tithebarnref13_Compare.j1 (k + 1) y0 y1 y2 y3 y4 y5))
 | 0 => ⟨fun _ _ _ _ _ r h => by simp [tithebarnref13_Compare.l0] at h, fun _ _ _ _ _ _ r h => by simp [tithebarnref13_Compare.j1] at h⟩
 | k + 1 => by
  obtain ⟨ih0, ih1⟩ := tithebarnref13_Compare.mono_l k
  refine ⟨?_, ?_⟩
  · intro y0 y1 y2 y3 y4
    unfold tithebarnref13_Compare.l0
    repeat' first
    | (with_reducible exact ih0 _ _ _ _ _)
    | (with_reducible exact ih1 _ _ _ _ _ _)
    | (with_reducible exact LeO.refl _)
    | (with_reducible exact LeO.none _)
    | (with_reducible refine LeO.ite ?_ ?_)
    | (with_reducible refine LeO.bind ?_ (fun _ => ?_))
    | exact ih0 _ _ _ _ _
    | exact ih1 _ _ _ _ _ _
    | exact LeO.none _
    | refine LeO.ite ?_ ?_
    | refine LeO.bind ?_ (fun _ => ?_)
  · intro y0 y1 y2 y3 y4 y5
    unfold tithebarnref13_Compare.j1
    repeat' first
    | (with_reducible exact ih0 _ _ _ _ _)
    | (with_reducible exact ih1 _ _ _ _ _ _)
    | (with_reducible exact LeO.refl _)
    | (with_reducible exact LeO.none _)
    | (with_reducible refine LeO.ite ?_ ?_)
    | (with_reducible refine LeO.bind ?_ (fun _ => ?_))
    | exact ih0 _ _ _ _ _
    | exact ih1 _ _ _ _ _ _
    | exact LeO.none _
    | refine LeO.ite ?_ ?_
    | refine LeO.bind ?_ (fun _ => ?_)
theorem tithebarnref13_Compare.mono : ∀ a0 a1 a2 a3 k, LeO (tithebarnref13_Compare.f k a0 a1 a2 a3) (tithebarnref13_Compare.f (k + 1) a0 a1 a2 a3) := by
 intro a0 a1 a2 a3 k
 obtain ⟨ih0, ih1⟩ := tithebarnref13_Compare.mono_l k
 unfold tithebarnref13_Compare.f
 repeat' first
  | (with_reducible exact ih0 _ _ _ _ _)
  | (with_reducible exact ih1 _ _ _ _ _ _)
  | (with_reducible exact LeO.refl _)
  | (with_reducible exact LeO.none _)
  | (with_reducible refine LeO.ite ?_ ?_)
  | (with_reducible refine LeO.bind ?_ (fun _ => ?_))
  | exact ih0 _ _ _ _ _
  | exact ih1 _ _ _ _ _ _
  | exact LeO.none _
  | refine LeO.ite ?_ ?_
  | refine LeO.bind ?_ (fun _ => ?_)
set_option maxHeartbeats 8000000 in
set_option maxRecDepth 100000 in
theorem tithebarnref13_Compare.calls (k : Nat) (A0_0 : Option Addr) (c0_0 : Nat) (l0_0 : List Int) (a0_1 : ByteArray) (A1_0 : Option Addr) (c1_0 : Nat) (l1_0 : List Int) (a1_1 : ByteArray) (r : Int) (w : World) (hr0_0 : Kd.C (Kd.int .i64) w A0_0 l0_0.length l0_0) (hc0_0 : l0_0.length ≤ c0_0) (hr1_0 : Kd.C (Kd.int .i64) w A1_0 l1_0.length l1_0) (hc1_0 : l1_0.length ≤ c1_0) (h : tithebarnref13_Compare.f k l0_0 a0_1 l1_0 a1_1 = some r) :
 Calls Tryz.prog 48 #[.agg #[.slice A0_0 l0_0.length c0_0, .string a0_1], .agg #[.slice A1_0 l1_0.length c1_0, .string a1_1]] w fun e w' => e = .returned (.int .i64 r) ∧ Below w.heap.size w w' := by
 have hu30 := Tryz.underlying30
 have HR0_0 := Aside0.mk hr0_0
 have HC0_0 := Aside0.mk hc0_0
 clear hr0_0 hc0_0
 have HR1_0 := Aside0.mk hr1_0
 have HC1_0 := Aside0.mk hc1_0
 clear hr1_0 hc1_0
 have HB := Aside0.mk (Below.refl w.heap.size w)
 have H : (tithebarnref13_Compare.l0 k 0 l0_0 a0_1 l1_0 a1_1) = some r := h
 clear h
 have H' := Aside0.mk H
 clear H
 go_enter Tryz.func48, Tryz.ntmps48
 go_wp2_with (first | ((with_reducible refine gate_dst (N := 2) rfl ?_); (try (refine gate_guard (by rfl) ?_; dsimp only)); refine box_event ?hg (N := 2) ?hd (cs := #[.slice A0_0 l0_0.length c0_0, .string a0_1]) (t := 30) ?hr ?_; (case hd => rfl); (case hg => rfl); (case hr => first | (go_simp; done) | (go_simp; rfl)); intro gb237 hg w3 hbox hb; have BK237 := Aside0.mk (hbox); have GW237 := Aside0.mk ((by rw [hg]; exact (below_size tb) : w.heap.size ≤ gb237)); have GE237 := Aside0.mk ((by rw [hg]; exact (below_size tb) : w.heap.size ≤ gb237)); replace HB := Aside0.mk (below_step tb hb); clear hb hbox hg) | ((with_reducible refine gate_dst (N := 3) rfl ?_); (try (refine gate_guard (by rfl) ?_; dsimp only)); refine box_event ?hg (N := 3) ?hd (cs := #[.slice A1_0 l1_0.length c1_0, .string a1_1]) (t := 30) ?hr ?_; (case hd => rfl); (case hg => rfl); (case hr => first | (go_simp; done) | (go_simp; rfl)); intro gb238 hg w4 hbox hb; have BK238 := Aside0.mk (hbox); have GW238 := Aside0.mk ((by rw [hg]; exact (below_size tb) : w.heap.size ≤ gb238)); have GE238 := Aside0.mk ((by rw [hg]; exact (below_size tb) : w.heap.size ≤ gb238)); replace HB := Aside0.mk (below_step tb hb); have NB237_238 := Aside0.mk ((by rw [hg]; exact Nat.ne_of_lt (blk_lt (g := gb237) (o := .cells #[.slice A0_0 l0_0.length c0_0, .string a0_1] 30 (0, 0)) tk) : gb237 ≠ gb238)); have NB238_237 := Aside0.mk ((by rw [hg]; exact Nat.ne_of_gt (blk_lt (g := gb237) (o := .cells #[.slice A0_0 l0_0.length c0_0, .string a0_1] 30 (0, 0)) tk) : gb238 ≠ gb237)); replace BK237 := Aside0.mk (blk_below (g := gb237) (o := .cells #[.slice A0_0 l0_0.length c0_0, .string a0_1] 30 (0, 0)) tk hb); clear hb hbox hg))
 repeat (go_quiet (first | ((with_reducible refine gate_dst (N := 2) rfl ?_); (try (refine gate_guard (by rfl) ?_; dsimp only)); refine box_event ?hg (N := 2) ?hd (cs := #[.slice A0_0 l0_0.length c0_0, .string a0_1]) (t := 30) ?hr ?_; (case hd => rfl); (case hg => rfl); (case hr => first | (go_simp; done) | (go_simp; rfl)); intro gb237 hg w3 hbox hb; have BK237 := Aside0.mk (hbox); have GW237 := Aside0.mk ((by rw [hg]; exact (below_size tb) : w.heap.size ≤ gb237)); have GE237 := Aside0.mk ((by rw [hg]; exact (below_size tb) : w.heap.size ≤ gb237)); replace HB := Aside0.mk (below_step tb hb); clear hb hbox hg) | ((with_reducible refine gate_dst (N := 3) rfl ?_); (try (refine gate_guard (by rfl) ?_; dsimp only)); refine box_event ?hg (N := 3) ?hd (cs := #[.slice A1_0 l1_0.length c1_0, .string a1_1]) (t := 30) ?hr ?_; (case hd => rfl); (case hg => rfl); (case hr => first | (go_simp; done) | (go_simp; rfl)); intro gb238 hg w4 hbox hb; have BK238 := Aside0.mk (hbox); have GW238 := Aside0.mk ((by rw [hg]; exact (below_size tb) : w.heap.size ≤ gb238)); have GE238 := Aside0.mk ((by rw [hg]; exact (below_size tb) : w.heap.size ≤ gb238)); replace HB := Aside0.mk (below_step tb hb); have NB237_238 := Aside0.mk ((by rw [hg]; exact Nat.ne_of_lt (blk_lt (g := gb237) (o := .cells #[.slice A0_0 l0_0.length c0_0, .string a0_1] 30 (0, 0)) tk) : gb237 ≠ gb238)); have NB238_237 := Aside0.mk ((by rw [hg]; exact Nat.ne_of_gt (blk_lt (g := gb237) (o := .cells #[.slice A0_0 l0_0.length c0_0, .string a0_1] 30 (0, 0)) tk) : gb238 ≠ gb237)); replace BK237 := Aside0.mk (blk_below (g := gb237) (o := .cells #[.slice A0_0 l0_0.length c0_0, .string a0_1] 30 (0, 0)) tk hb); clear hb hbox hg)); try go_wp2_with (first | ((with_reducible refine gate_dst (N := 2) rfl ?_); (try (refine gate_guard (by rfl) ?_; dsimp only)); refine box_event ?hg (N := 2) ?hd (cs := #[.slice A0_0 l0_0.length c0_0, .string a0_1]) (t := 30) ?hr ?_; (case hd => rfl); (case hg => rfl); (case hr => first | (go_simp; done) | (go_simp; rfl)); intro gb237 hg w3 hbox hb; have BK237 := Aside0.mk (hbox); have GW237 := Aside0.mk ((by rw [hg]; exact (below_size tb) : w.heap.size ≤ gb237)); have GE237 := Aside0.mk ((by rw [hg]; exact (below_size tb) : w.heap.size ≤ gb237)); replace HB := Aside0.mk (below_step tb hb); clear hb hbox hg) | ((with_reducible refine gate_dst (N := 3) rfl ?_); (try (refine gate_guard (by rfl) ?_; dsimp only)); refine box_event ?hg (N := 3) ?hd (cs := #[.slice A1_0 l1_0.length c1_0, .string a1_1]) (t := 30) ?hr ?_; (case hd => rfl); (case hg => rfl); (case hr => first | (go_simp; done) | (go_simp; rfl)); intro gb238 hg w4 hbox hb; have BK238 := Aside0.mk (hbox); have GW238 := Aside0.mk ((by rw [hg]; exact (below_size tb) : w.heap.size ≤ gb238)); have GE238 := Aside0.mk ((by rw [hg]; exact (below_size tb) : w.heap.size ≤ gb238)); replace HB := Aside0.mk (below_step tb hb); have NB237_238 := Aside0.mk ((by rw [hg]; exact Nat.ne_of_lt (blk_lt (g := gb237) (o := .cells #[.slice A0_0 l0_0.length c0_0, .string a0_1] 30 (0, 0)) tk) : gb237 ≠ gb238)); have NB238_237 := Aside0.mk ((by rw [hg]; exact Nat.ne_of_gt (blk_lt (g := gb237) (o := .cells #[.slice A0_0 l0_0.length c0_0, .string a0_1] 30 (0, 0)) tk) : gb238 ≠ gb237)); replace BK237 := Aside0.mk (blk_below (g := gb237) (o := .cells #[.slice A0_0 l0_0.length c0_0, .string a0_1] 30 (0, 0)) tk hb); clear hb hbox hg)))
 go_loopg [5] k (fun kq v5 w' => ∃ (x5_1 : Int), v5 = .int .i64 x5_1 ∧ Aside0 (tithebarnref13_Compare.l0 kq x5_1 l0_0 a0_1 l1_0 a1_1 = some r) ∧ Aside0 (kq ≤ k) ∧ Aside0 (w'.heap[gb237]? = some (.cells #[(.slice A0_0 l0_0.length c0_0), .string a0_1] 30 (0, 0))) ∧ Aside0 (w'.heap[gb238]? = some (.cells #[(.slice A1_0 l1_0.length c1_0), .string a1_1] 30 (0, 0))) ∧ Aside0 (Below w.heap.size w w'))
 case atStart => exact ⟨(0), rf, H', ⟨Nat.le_refl _⟩, ⟨by (with_reducible repeat (first | refine blk_drewN ?_ _ | refine blk_drew ?_ | refine blk_alloc ?_ _)); exact BK237.out⟩, ⟨by (with_reducible repeat (first | refine blk_drewN ?_ _ | refine blk_drew ?_ | refine blk_alloc ?_ _)); exact BK238.out⟩, ⟨tb⟩⟩
 case round =>
  clear H'
  try clear c1
  try clear p2
  try clear c4
  obtain ⟨x5_1, rfl, HA, HK1, BK237, BK238, HB⟩ := hrel
  cases gk with
  | zero => exact absurd HA.out (by simp [tithebarnref13_Compare.l0])
  | succ k1 =>
   have H := HA.out
   clear HA
   simp only [tithebarnref13_Compare.l0] at H
   have HC5 := Aside0.mk H
   clear H
   go_upto_region 2 with (fail)
   repeat (go_quiet (fail); go_upto_region 2 with (fail))
   go_cut [17] (fun v17 wc => ∃ (kq : Nat) (x17_4 : Bool), v17 = .bool x17_4 ∧ Aside0 (tithebarnref13_Compare.j1 kq x5_1 x17_4 l0_0 a0_1 l1_0 a1_1 = some r) ∧ Aside0 (kq ≤ k1) ∧ Aside0 (wc.heap[gb237]? = some (.cells #[(.slice A0_0 l0_0.length c0_0), .string a0_1] 30 (0, 0))) ∧ Aside0 (wc.heap[gb238]? = some (.cells #[(.slice A1_0 l1_0.length c1_0), .string a1_1] 30 (0, 0))) ∧ Aside0 (Below w.heap.size w wc))
   case first =>
    have H := HC5.out
    clear HC5
    by_cases c6 : x5_1 < (l0_0.length : Int)
    rotate_left
    · rw [if_neg c6] at H
      have c6b0 : decide (x5_1 < (l0_0.length : Int)) = false := decide_eq_false c6
      clear c6
      (first | rw [c6b0] | (simp only [i64_w, i32_w]; rw [c6b0]) | skip)
      have H' := Aside0.mk H
      clear H
      have hnb10 := NB237_238.out
      have hnc10 := NB238_237.out
      have hcz11_0 : wr.cell? ⟨gb237, 0, none⟩ = some (.slice A0_0 l0_0.length c0_0) := (blk_cell BK237.out 0).trans rfl
      have hcz11_1 : wr.cell? ⟨gb237, 1, none⟩ = some (.string a0_1) := (blk_cell BK237.out 1).trans rfl
      have hfz11_0 := blk_frozen BK237.out 0
      have hfz11_1 := blk_frozen BK237.out 1
      go_wp2
      repeat (go_quiet (fail); try go_wp2)
      go_meet
      case rel => exact ⟨_, (false), rf, H', ⟨by have := HK1.out; first | omega | exact Nat.le_refl _⟩, ⟨by (with_reducible repeat (first | refine blk_drewN ?_ _ | refine blk_drew ?_ | refine blk_alloc ?_ _)); exact BK237.out⟩, ⟨by (with_reducible repeat (first | refine blk_drewN ?_ _ | refine blk_drew ?_ | refine blk_alloc ?_ _)); exact BK238.out⟩, ⟨tb⟩⟩
    rw [if_pos c6] at H
    have c6b0 : decide (x5_1 < (l0_0.length : Int)) = true := decide_eq_true c6
    clear c6
    (first | rw [c6b0] | (simp only [i64_w, i32_w]; rw [c6b0]) | skip)
    have H' := Aside0.mk H
    clear H
    have hnb7 := NB237_238.out
    have hnc7 := NB238_237.out
    have hcz8_0 : wr.cell? ⟨gb237, 0, none⟩ = some (.slice A0_0 l0_0.length c0_0) := (blk_cell BK237.out 0).trans rfl
    have hcz8_1 : wr.cell? ⟨gb237, 1, none⟩ = some (.string a0_1) := (blk_cell BK237.out 1).trans rfl
    have hfz8_0 := blk_frozen BK237.out 0
    have hfz8_1 := blk_frozen BK237.out 1
    have hcz9_0 : wr.cell? ⟨gb238, 0, none⟩ = some (.slice A1_0 l1_0.length c1_0) := (blk_cell BK238.out 0).trans rfl
    have hcz9_1 : wr.cell? ⟨gb238, 1, none⟩ = some (.string a1_1) := (blk_cell BK238.out 1).trans rfl
    have hfz9_0 := blk_frozen BK238.out 0
    have hfz9_1 := blk_frozen BK238.out 1
    go_wp2
    repeat (go_quiet (fail); try go_wp2)
    go_meet
    case rel => exact ⟨_, (decide (x5_1 < (l1_0.length : Int))), rf, H', ⟨by have := HK1.out; first | omega | exact Nat.le_refl _⟩, ⟨by (with_reducible repeat (first | refine blk_drewN ?_ _ | refine blk_drew ?_ | refine blk_alloc ?_ _)); exact BK237.out⟩, ⟨by (with_reducible repeat (first | refine blk_drewN ?_ _ | refine blk_drew ?_ | refine blk_alloc ?_ _)); exact BK238.out⟩, ⟨tb⟩⟩
   case rest =>
    clear HC5
    try clear c1
    try clear p2
    try clear c4
    try clear c6
    try clear c6b0
    try clear c7
    try clear c10
    try clear hcz11_0
    try clear hcz11_1
    try clear hcz8_0
    try clear hcz8_1
    try clear hcz9_0
    try clear hcz9_1
    try clear hfz11_0
    try clear hfz11_1
    try clear hfz8_0
    try clear hfz8_1
    try clear hfz9_0
    try clear hfz9_1
    try clear p2
    obtain ⟨kq, x17_4, rfl, HA, HJ4, BK237, BK238, HB⟩ := hcut
    cases kq with
    | zero => exact absurd HA.out (by simp [tithebarnref13_Compare.j1])
    | succ kj4 =>
     have H := HA.out
     clear HA
     simp only [tithebarnref13_Compare.j1] at H
     by_cases c12 : x17_4 = true
     · subst c12
       rw [if_pos rfl] at H
       by_cases c13 : 0 ≤ x5_1
       rotate_left
       · rw [if_neg c13] at H
         exact absurd H (by simp)
       rw [if_pos c13] at H
       have c13b0 : decide (0 ≤ x5_1) = true := decide_eq_true c13
       clear c13
       by_cases c14 : x5_1 < (l0_0.length : Int)
       rotate_left
       · rw [if_neg c14] at H
         exact absurd H (by simp)
       rw [if_pos c14] at H
       have c14b0 : decide (x5_1 < (l0_0.length : Int)) = true := decide_eq_true c14
       clear c14
       by_cases c15 : x5_1 < (l1_0.length : Int)
       rotate_left
       · rw [if_neg c15] at H
         exact absurd H (by simp)
       rw [if_pos c15] at H
       have c15b0 : decide (x5_1 < (l1_0.length : Int)) = true := decide_eq_true c15
       clear c15
       by_cases c16 : (rd l0_0 x5_1) < (rd l1_0 x5_1)
       · rw [if_pos c16] at H
         have c16b0 : decide ((rd l0_0 x5_1) < (rd l1_0 x5_1)) = true := decide_eq_true c16
         clear c16
         obtain rfl := Option.some.inj H
         have hnb17 := NB237_238.out
         have hnc17 := NB238_237.out
         have hcz18_0 : wc.cell? ⟨gb237, 0, none⟩ = some (.slice A0_0 l0_0.length c0_0) := (blk_cell BK237.out 0).trans rfl
         have hcz18_1 : wc.cell? ⟨gb237, 1, none⟩ = some (.string a0_1) := (blk_cell BK237.out 1).trans rfl
         have hfz18_0 := blk_frozen BK237.out 0
         have hfz18_1 := blk_frozen BK237.out 1
         have p239 : 0 ≤ (x5_1 : Int) := da
         have q239 : x5_1 < (l0_0.length : Int) := da
         obtain ⟨ad239, e239, hx239_0⟩ := Kd.at_int HR0_0.out x5_1 p239 q239
         cases e239
         replace hx239_0 := (HB.out.cell (World.block_lt_of_cell? w _ hx239_0)).trans hx239_0
         replace p239 := eq_true p239
         replace q239 := eq_true q239
         have hcz19_0 : wc.cell? ⟨gb238, 0, none⟩ = some (.slice A1_0 l1_0.length c1_0) := (blk_cell BK238.out 0).trans rfl
         have hcz19_1 : wc.cell? ⟨gb238, 1, none⟩ = some (.string a1_1) := (blk_cell BK238.out 1).trans rfl
         have hfz19_0 := blk_frozen BK238.out 0
         have hfz19_1 := blk_frozen BK238.out 1
         have p240 : 0 ≤ (x5_1 : Int) := da
         have q240 : x5_1 < (l1_0.length : Int) := da
         obtain ⟨ad240, e240, hx240_0⟩ := Kd.at_int HR1_0.out x5_1 p240 q240
         cases e240
         replace hx240_0 := (HB.out.cell (World.block_lt_of_cell? w _ hx240_0)).trans hx240_0
         replace p240 := eq_true p240
         replace q240 := eq_true q240
         go_wp2
         repeat (go_quiet (fail); try go_wp2)
         go_ret
         exact ⟨by first | rfl | (simp [errW_none, errW_some] <;> rfl) | (simp [*, errW_none, errW_some] <;> rfl), tb⟩
       rw [if_neg c16] at H
       have c16b0 : decide ((rd l0_0 x5_1) < (rd l1_0 x5_1)) = false := decide_eq_false c16
       clear c16
       by_cases c20 : (rd l0_0 x5_1) > (rd l1_0 x5_1)
       · rw [if_pos c20] at H
         have c20b0 : decide ((rd l1_0 x5_1) < (rd l0_0 x5_1)) = true := decide_eq_true c20
         clear c20
         obtain rfl := Option.some.inj H
         have hnb21 := NB237_238.out
         have hnc21 := NB238_237.out
         have hcz22_0 : wc.cell? ⟨gb237, 0, none⟩ = some (.slice A0_0 l0_0.length c0_0) := (blk_cell BK237.out 0).trans rfl
         have hcz22_1 : wc.cell? ⟨gb237, 1, none⟩ = some (.string a0_1) := (blk_cell BK237.out 1).trans rfl
         have hfz22_0 := blk_frozen BK237.out 0
         have hfz22_1 := blk_frozen BK237.out 1
         have p239 : 0 ≤ (x5_1 : Int) := da
         have q239 : x5_1 < (l0_0.length : Int) := da
         obtain ⟨ad239, e239, hx239_0⟩ := Kd.at_int HR0_0.out x5_1 p239 q239
         cases e239
         replace hx239_0 := (HB.out.cell (World.block_lt_of_cell? w _ hx239_0)).trans hx239_0
         replace p239 := eq_true p239
         replace q239 := eq_true q239
         have hcz23_0 : wc.cell? ⟨gb238, 0, none⟩ = some (.slice A1_0 l1_0.length c1_0) := (blk_cell BK238.out 0).trans rfl
         have hcz23_1 : wc.cell? ⟨gb238, 1, none⟩ = some (.string a1_1) := (blk_cell BK238.out 1).trans rfl
         have hfz23_0 := blk_frozen BK238.out 0
         have hfz23_1 := blk_frozen BK238.out 1
         have p240 : 0 ≤ (x5_1 : Int) := da
         have q240 : x5_1 < (l1_0.length : Int) := da
         obtain ⟨ad240, e240, hx240_0⟩ := Kd.at_int HR1_0.out x5_1 p240 q240
         cases e240
         replace hx240_0 := (HB.out.cell (World.block_lt_of_cell? w _ hx240_0)).trans hx240_0
         replace p240 := eq_true p240
         replace q240 := eq_true q240
         have p241 : 0 ≤ (x5_1 : Int) := da
         have q241 : x5_1 < (l0_0.length : Int) := da
         obtain ⟨ad241, e241, hx241_0⟩ := Kd.at_int HR0_0.out x5_1 p241 q241
         obtain rfl : ad239 = ad241 := (by injection e241)
         replace hx241_0 := (HB.out.cell (World.block_lt_of_cell? w _ hx241_0)).trans hx241_0
         replace p241 := eq_true p241
         replace q241 := eq_true q241
         have p242 : 0 ≤ (x5_1 : Int) := da
         have q242 : x5_1 < (l1_0.length : Int) := da
         obtain ⟨ad242, e242, hx242_0⟩ := Kd.at_int HR1_0.out x5_1 p242 q242
         obtain rfl : ad240 = ad242 := (by injection e242)
         replace hx242_0 := (HB.out.cell (World.block_lt_of_cell? w _ hx242_0)).trans hx242_0
         replace p242 := eq_true p242
         replace q242 := eq_true q242
         go_wp2
         repeat (go_quiet (fail); try go_wp2)
         go_ret
         exact ⟨by first | rfl | (simp [errW_none, errW_some] <;> rfl) | (simp [*, errW_none, errW_some] <;> rfl), tb⟩
       rw [if_neg c20] at H
       have c20b0 : decide ((rd l1_0 x5_1) < (rd l0_0 x5_1)) = false := decide_eq_false c20
       clear c20
       have H' := Aside0.mk H
       clear H
       have hnb24 := NB237_238.out
       have hnc24 := NB238_237.out
       have hcz25_0 : wc.cell? ⟨gb237, 0, none⟩ = some (.slice A0_0 l0_0.length c0_0) := (blk_cell BK237.out 0).trans rfl
       have hcz25_1 : wc.cell? ⟨gb237, 1, none⟩ = some (.string a0_1) := (blk_cell BK237.out 1).trans rfl
       have hfz25_0 := blk_frozen BK237.out 0
       have hfz25_1 := blk_frozen BK237.out 1
       have p239 : 0 ≤ (x5_1 : Int) := da
       have q239 : x5_1 < (l0_0.length : Int) := da
       obtain ⟨ad239, e239, hx239_0⟩ := Kd.at_int HR0_0.out x5_1 p239 q239
       cases e239
       replace hx239_0 := (HB.out.cell (World.block_lt_of_cell? w _ hx239_0)).trans hx239_0
       replace p239 := eq_true p239
       replace q239 := eq_true q239
       have hcz26_0 : wc.cell? ⟨gb238, 0, none⟩ = some (.slice A1_0 l1_0.length c1_0) := (blk_cell BK238.out 0).trans rfl
       have hcz26_1 : wc.cell? ⟨gb238, 1, none⟩ = some (.string a1_1) := (blk_cell BK238.out 1).trans rfl
       have hfz26_0 := blk_frozen BK238.out 0
       have hfz26_1 := blk_frozen BK238.out 1
       have p240 : 0 ≤ (x5_1 : Int) := da
       have q240 : x5_1 < (l1_0.length : Int) := da
       obtain ⟨ad240, e240, hx240_0⟩ := Kd.at_int HR1_0.out x5_1 p240 q240
       cases e240
       replace hx240_0 := (HB.out.cell (World.block_lt_of_cell? w _ hx240_0)).trans hx240_0
       replace p240 := eq_true p240
       replace q240 := eq_true q240
       have p241 : 0 ≤ (x5_1 : Int) := da
       have q241 : x5_1 < (l0_0.length : Int) := da
       obtain ⟨ad241, e241, hx241_0⟩ := Kd.at_int HR0_0.out x5_1 p241 q241
       obtain rfl : ad239 = ad241 := (by injection e241)
       replace hx241_0 := (HB.out.cell (World.block_lt_of_cell? w _ hx241_0)).trans hx241_0
       replace p241 := eq_true p241
       replace q241 := eq_true q241
       have p242 : 0 ≤ (x5_1 : Int) := da
       have q242 : x5_1 < (l1_0.length : Int) := da
       obtain ⟨ad242, e242, hx242_0⟩ := Kd.at_int HR1_0.out x5_1 p242 q242
       obtain rfl : ad240 = ad242 := (by injection e242)
       replace hx242_0 := (HB.out.cell (World.block_lt_of_cell? w _ hx242_0)).trans hx242_0
       replace p242 := eq_true p242
       replace q242 := eq_true q242
       go_wp2
       repeat (go_quiet (fail); try go_wp2)
       go_roundg kj4
       case measure => have := HK1.out; have := HJ4.out; omega
       case rel => exact ⟨(wrap64 (x5_1 + 1)), rf, H', ⟨by have := HK1.out; have := HJ4.out; omega⟩, ⟨by (with_reducible repeat (first | refine blk_drewN ?_ _ | refine blk_drew ?_ | refine blk_alloc ?_ _)); exact BK237.out⟩, ⟨by (with_reducible repeat (first | refine blk_drewN ?_ _ | refine blk_drew ?_ | refine blk_alloc ?_ _)); exact BK238.out⟩, ⟨tb⟩⟩
     replace c12 := Bool.eq_false_iff.mpr c12
     subst c12
     rw [if_neg (show ¬ (false = true) by decide)] at H
     by_cases c27 : (l0_0.length : Int) < (l1_0.length : Int)
     · rw [if_pos c27] at H
       have c27b0 : decide ((l0_0.length : Int) < (l1_0.length : Int)) = true := decide_eq_true c27
       have c27b1 : decide (l0_0.length < l1_0.length) = true := decide_eq_true (Int.ofNat_lt.mp c27)
       clear c27
       obtain rfl := Option.some.inj H
       have hnb28 := NB237_238.out
       have hnc28 := NB238_237.out
       have hcz29_0 : wc.cell? ⟨gb237, 0, none⟩ = some (.slice A0_0 l0_0.length c0_0) := (blk_cell BK237.out 0).trans rfl
       have hcz29_1 : wc.cell? ⟨gb237, 1, none⟩ = some (.string a0_1) := (blk_cell BK237.out 1).trans rfl
       have hfz29_0 := blk_frozen BK237.out 0
       have hfz29_1 := blk_frozen BK237.out 1
       have hcz30_0 : wc.cell? ⟨gb238, 0, none⟩ = some (.slice A1_0 l1_0.length c1_0) := (blk_cell BK238.out 0).trans rfl
       have hcz30_1 : wc.cell? ⟨gb238, 1, none⟩ = some (.string a1_1) := (blk_cell BK238.out 1).trans rfl
       have hfz30_0 := blk_frozen BK238.out 0
       have hfz30_1 := blk_frozen BK238.out 1
       go_wp2
       repeat (go_quiet (fail); try go_wp2)
       go_ret
       exact ⟨by first | rfl | (simp [errW_none, errW_some] <;> rfl) | (simp [*, errW_none, errW_some] <;> rfl), tb⟩
     rw [if_neg c27] at H
     have c27b0 : decide ((l0_0.length : Int) < (l1_0.length : Int)) = false := decide_eq_false c27
     have c27b1 : decide (l0_0.length < l1_0.length) = false := decide_eq_false (fun h => c27 (Int.ofNat_lt.mpr h))
     clear c27
     by_cases c31 : (l0_0.length : Int) > (l1_0.length : Int)
     · rw [if_pos c31] at H
       have c31b0 : decide ((l1_0.length : Int) < (l0_0.length : Int)) = true := decide_eq_true c31
       have c31b1 : decide (l1_0.length < l0_0.length) = true := decide_eq_true (Int.ofNat_lt.mp c31)
       clear c31
       obtain rfl := Option.some.inj H
       have hnb32 := NB237_238.out
       have hnc32 := NB238_237.out
       have hcz33_0 : wc.cell? ⟨gb237, 0, none⟩ = some (.slice A0_0 l0_0.length c0_0) := (blk_cell BK237.out 0).trans rfl
       have hcz33_1 : wc.cell? ⟨gb237, 1, none⟩ = some (.string a0_1) := (blk_cell BK237.out 1).trans rfl
       have hfz33_0 := blk_frozen BK237.out 0
       have hfz33_1 := blk_frozen BK237.out 1
       have hcz34_0 : wc.cell? ⟨gb238, 0, none⟩ = some (.slice A1_0 l1_0.length c1_0) := (blk_cell BK238.out 0).trans rfl
       have hcz34_1 : wc.cell? ⟨gb238, 1, none⟩ = some (.string a1_1) := (blk_cell BK238.out 1).trans rfl
       have hfz34_0 := blk_frozen BK238.out 0
       have hfz34_1 := blk_frozen BK238.out 1
       go_wp2
       repeat (go_quiet (fail); try go_wp2)
       go_ret
       exact ⟨by first | rfl | (simp [errW_none, errW_some] <;> rfl) | (simp [*, errW_none, errW_some] <;> rfl), tb⟩
     rw [if_neg c31] at H
     have c31b0 : decide ((l1_0.length : Int) < (l0_0.length : Int)) = false := decide_eq_false c31
     have c31b1 : decide (l1_0.length < l0_0.length) = false := decide_eq_false (fun h => c31 (Int.ofNat_lt.mpr h))
     clear c31
     by_cases c35 : a0_1.toList = a1_1.toList
     · rw [if_pos c35] at H
       have c35b0 : (a0_1.toList == a1_1.toList) = true := beq_iff_eq.mpr c35
       have c35b1 : (a0_1.toList != a1_1.toList) = false := bne_eq_false_iff_eq.mpr c35
       clear c35
       obtain rfl := Option.some.inj H
       have hnb36 := NB237_238.out
       have hnc36 := NB238_237.out
       have hcz37_0 : wc.cell? ⟨gb237, 0, none⟩ = some (.slice A0_0 l0_0.length c0_0) := (blk_cell BK237.out 0).trans rfl
       have hcz37_1 : wc.cell? ⟨gb237, 1, none⟩ = some (.string a0_1) := (blk_cell BK237.out 1).trans rfl
       have hfz37_0 := blk_frozen BK237.out 0
       have hfz37_1 := blk_frozen BK237.out 1
       have hcz38_0 : wc.cell? ⟨gb238, 0, none⟩ = some (.slice A1_0 l1_0.length c1_0) := (blk_cell BK238.out 0).trans rfl
       have hcz38_1 : wc.cell? ⟨gb238, 1, none⟩ = some (.string a1_1) := (blk_cell BK238.out 1).trans rfl
       have hfz38_0 := blk_frozen BK238.out 0
       have hfz38_1 := blk_frozen BK238.out 1
       go_wp2
       repeat (go_quiet (fail); try go_wp2)
       go_ret
       exact ⟨by first | rfl | (simp [errW_none, errW_some] <;> rfl) | (simp [*, errW_none, errW_some] <;> rfl), tb⟩
     rw [if_neg c35] at H
     have c35b0 : (a0_1.toList == a1_1.toList) = false := beq_eq_false_iff_ne.mpr c35
     have c35b1 : (a0_1.toList != a1_1.toList) = true := bne_iff_ne.mpr c35
     by_cases c39 : a0_1.toList = ([] : List UInt8)
     · rw [if_pos c39] at H
       have c39b0 : (a0_1.toList == ([] : List UInt8)) = true := beq_iff_eq.mpr c39
       have c39b1 : (a0_1.toList != ([] : List UInt8)) = false := bne_eq_false_iff_eq.mpr c39
       clear c39
       obtain rfl := Option.some.inj H
       have hnb40 := NB237_238.out
       have hnc40 := NB238_237.out
       have hcz41_0 : wc.cell? ⟨gb237, 0, none⟩ = some (.slice A0_0 l0_0.length c0_0) := (blk_cell BK237.out 0).trans rfl
       have hcz41_1 : wc.cell? ⟨gb237, 1, none⟩ = some (.string a0_1) := (blk_cell BK237.out 1).trans rfl
       have hfz41_0 := blk_frozen BK237.out 0
       have hfz41_1 := blk_frozen BK237.out 1
       have hcz42_0 : wc.cell? ⟨gb238, 0, none⟩ = some (.slice A1_0 l1_0.length c1_0) := (blk_cell BK238.out 0).trans rfl
       have hcz42_1 : wc.cell? ⟨gb238, 1, none⟩ = some (.string a1_1) := (blk_cell BK238.out 1).trans rfl
       have hfz42_0 := blk_frozen BK238.out 0
       have hfz42_1 := blk_frozen BK238.out 1
       go_wp2
       repeat (go_quiet (fail); try go_wp2)
       go_ret
       exact ⟨by first | rfl | (simp [errW_none, errW_some] <;> rfl) | (simp [*, errW_none, errW_some] <;> rfl), tb⟩
     rw [if_neg c39] at H
     have c39b0 : (a0_1.toList == ([] : List UInt8)) = false := beq_eq_false_iff_ne.mpr c39
     have c39b1 : (a0_1.toList != ([] : List UInt8)) = true := bne_iff_ne.mpr c39
     by_cases c43 : a1_1.toList = ([] : List UInt8)
     · rw [if_pos c43] at H
       have c43b0 : (a1_1.toList == ([] : List UInt8)) = true := beq_iff_eq.mpr c43
       have c43b1 : (a1_1.toList != ([] : List UInt8)) = false := bne_eq_false_iff_eq.mpr c43
       clear c43
       obtain rfl := Option.some.inj H
       have hnb44 := NB237_238.out
       have hnc44 := NB238_237.out
       have hcz45_0 : wc.cell? ⟨gb237, 0, none⟩ = some (.slice A0_0 l0_0.length c0_0) := (blk_cell BK237.out 0).trans rfl
       have hcz45_1 : wc.cell? ⟨gb237, 1, none⟩ = some (.string a0_1) := (blk_cell BK237.out 1).trans rfl
       have hfz45_0 := blk_frozen BK237.out 0
       have hfz45_1 := blk_frozen BK237.out 1
       have hcz46_0 : wc.cell? ⟨gb238, 0, none⟩ = some (.slice A1_0 l1_0.length c1_0) := (blk_cell BK238.out 0).trans rfl
       have hcz46_1 : wc.cell? ⟨gb238, 1, none⟩ = some (.string a1_1) := (blk_cell BK238.out 1).trans rfl
       have hfz46_0 := blk_frozen BK238.out 0
       have hfz46_1 := blk_frozen BK238.out 1
       go_wp2
       repeat (go_quiet (fail); try go_wp2)
       go_ret
       exact ⟨by first | rfl | (simp [errW_none, errW_some] <;> rfl) | (simp [*, errW_none, errW_some] <;> rfl), tb⟩
     rw [if_neg c43] at H
     have c43b0 : (a1_1.toList == ([] : List UInt8)) = false := beq_eq_false_iff_ne.mpr c43
     have c43b1 : (a1_1.toList != ([] : List UInt8)) = true := bne_iff_ne.mpr c43
     by_cases c47 : (Op.bytesLess a0_1.toList a1_1.toList) = true
     · rw [if_pos c47] at H
       have c47b0 : (Op.bytesLess a0_1.toList a1_1.toList) = true := c47
       clear c47
       obtain rfl := Option.some.inj H
       have hnb48 := NB237_238.out
       have hnc48 := NB238_237.out
       have hcz49_0 : wc.cell? ⟨gb237, 0, none⟩ = some (.slice A0_0 l0_0.length c0_0) := (blk_cell BK237.out 0).trans rfl
       have hcz49_1 : wc.cell? ⟨gb237, 1, none⟩ = some (.string a0_1) := (blk_cell BK237.out 1).trans rfl
       have hfz49_0 := blk_frozen BK237.out 0
       have hfz49_1 := blk_frozen BK237.out 1
       have hcz50_0 : wc.cell? ⟨gb238, 0, none⟩ = some (.slice A1_0 l1_0.length c1_0) := (blk_cell BK238.out 0).trans rfl
       have hcz50_1 : wc.cell? ⟨gb238, 1, none⟩ = some (.string a1_1) := (blk_cell BK238.out 1).trans rfl
       have hfz50_0 := blk_frozen BK238.out 0
       have hfz50_1 := blk_frozen BK238.out 1
       go_wp2
       repeat (go_quiet (fail); try go_wp2)
       go_ret
       exact ⟨by first | rfl | (simp [errW_none, errW_some] <;> rfl) | (simp [*, errW_none, errW_some] <;> rfl), tb⟩
     rw [if_neg c47] at H
     have c47b0 : (Op.bytesLess a0_1.toList a1_1.toList) = false := by simpa using c47
     clear c47
     obtain rfl := Option.some.inj H
     have hnb51 := NB237_238.out
     have hnc51 := NB238_237.out
     have hcz52_0 : wc.cell? ⟨gb237, 0, none⟩ = some (.slice A0_0 l0_0.length c0_0) := (blk_cell BK237.out 0).trans rfl
     have hcz52_1 : wc.cell? ⟨gb237, 1, none⟩ = some (.string a0_1) := (blk_cell BK237.out 1).trans rfl
     have hfz52_0 := blk_frozen BK237.out 0
     have hfz52_1 := blk_frozen BK237.out 1
     have hcz53_0 : wc.cell? ⟨gb238, 0, none⟩ = some (.slice A1_0 l1_0.length c1_0) := (blk_cell BK238.out 0).trans rfl
     have hcz53_1 : wc.cell? ⟨gb238, 1, none⟩ = some (.string a1_1) := (blk_cell BK238.out 1).trans rfl
     have hfz53_0 := blk_frozen BK238.out 0
     have hfz53_1 := blk_frozen BK238.out 1
     go_wp2
     repeat (go_quiet (fail); try go_wp2)
     go_ret
     exact ⟨by first | rfl | (simp [errW_none, errW_some] <;> rfl) | (simp [*, errW_none, errW_some] <;> rfl), tb⟩

end Go.Proofs.YtnbmdecehlljcaaGreatDoor.PRq
