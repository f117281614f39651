-- Laid by a program of this session (wip/tools/pgiven.py) out of the seat's translation. Lean checks it.
import Derived.Test.YtnbmdecehlljcaaGreatDoorPRqx0
import Derived.Test.YtnbmdecehlljcaaGreatDoorPRqx2
namespace Go.Proofs.YtnbmdecehlljcaaGreatDoor.PRq
open Go.RowKit Go.Proofs.YtnbmdecehlljcaaGreatDoorW.PrintWords Go.Proofs.YtnbmdecehlljcaaGreatDoorW.PrintLast Go.Proofs.YtnbmdecehlljcaaGreatDoorW.PrintMore
attribute [local go_sem] max2_int min2_int max_two min_two max_three min_three max_four min_four   -- for this text's walks alone
set_option linter.unusedVariables false
set_option linter.unusedSimpArgs false

attribute [local go_sem] isSome_setCellV
/-! ### tithebarnref13_Parse: function 15 -/
mutual
def tithebarnref13_Parse.l0 : Nat → ByteArray → Int → Int → Option (List Int × ByteArray × Int)
 | 0, _, _, _ => none
 | k + 1, x0, x4, x5 => if x5 ≥ 0 then (if 0 ≤ x5 then (if x5 < (x0.size : Int) then (if (bt x0 x5) = 45 then (tithebarnref13_Parse.l0 k x0 x5 (wrap64 (x5 - 1))) else (tithebarnref13_Parse.l0 k x0 x4 (wrap64 (x5 - 1)))) else (none)) else (none)) else (if x4 < (x0.size : Int) then (if 0 ≤ (wrap64 (x4 + 1)) then (if (wrap64 (x4 + 1)) ≤ (x0.size : Int) then (if (x0.extract ((wrap64 (x4 + 1)) : Int).toNat x0.size).toList = ([] : List UInt8) then (some (([] : List Int), (⟨#[]⟩ : ByteArray), 130)) else ((tithebarnref13_tag.f k (x0.extract ((wrap64 (x4 + 1)) : Int).toNat x0.size)).bind fun t109 => (if t109 = true then (tithebarnref13_Parse.j1 k x0 x4 (x0.extract ((wrap64 (x4 + 1)) : Int).toNat x0.size)) else (some (([] : List Int), (⟨#[]⟩ : ByteArray), 130))))) else (none)) else (none)) else (tithebarnref13_Parse.j1 k x0 x4 (⟨#[]⟩ : ByteArray)))
def tithebarnref13_Parse.j1 : Nat → ByteArray → Int → ByteArray → Option (List Int × ByteArray × Int)
 | 0, _, _, _ => none
 | k + 1, x0, x4, x109001 => tithebarnref13_Parse.l1 k x0 x4 0 0 ([] : List Int) x109001
def tithebarnref13_Parse.l1 : Nat → ByteArray → Int → Int → Int → List Int → ByteArray → Option (List Int × ByteArray × Int)
 | 0, _, _, _, _, _, _ => none
 | k + 1, x0, x4, x7, x8, x109000, x109001 => if x8 ≤ x4 then (if x8 < x4 then (if 0 ≤ x8 then (if x8 < (x0.size : Int) then (tithebarnref13_Parse.j3 k x0 x4 x7 x8 ((bt x0 x8) != 46) x109000 x109001) else (none)) else (none)) else (tithebarnref13_Parse.j3 k x0 x4 x7 x8 false x109000 x109001)) else (if (x109000.length : Int) > 8 then (some (([] : List Int), (⟨#[]⟩ : ByteArray), 130)) else (some (x109000, x109001, 0)))
def tithebarnref13_Parse.j3 : Nat → ByteArray → Int → Int → Int → Bool → List Int → ByteArray → Option (List Int × ByteArray × Int)
 | 0, _, _, _, _, _, _, _ => none
 | k + 1, x0, x4, x7, x8, x58, x109000, x109001 => if x58 = true then (tithebarnref13_Parse.l1 k x0 x4 x7 (wrap64 (x8 + 1)) x109000 x109001) else (if 0 ≤ x7 then (if x7 ≤ x8 then (if x8 ≤ (x0.size : Int) then ((tithebarnref13_number.f k (x0.extract (x7 : Int).toNat (x8 : Int).toNat)).bind fun bt110 => (if bt110.2 = true then (if x109000.length < 17592186044416 then (tithebarnref13_Parse.l1 k x0 x4 (wrap64 (x8 + 1)) (wrap64 (x8 + 1)) (x109000 ++ [bt110.1]) x109001) else (none)) else (some (([] : List Int), (⟨#[]⟩ : ByteArray), 130)))) else (none)) else (none)) else (none))
end
def tithebarnref13_Parse.f (k : Nat) (a0 : ByteArray) : Option (List Int × ByteArray × Int) := tithebarnref13_Parse.l0 k a0 (a0.size : Int) (wrap64 ((a0.size : Int) - 1))
theorem tithebarnref13_Parse.mono_l : ∀ k, (∀ y0 y1 y2, LeO (tithebarnref13_Parse.l0 k y0 y1 y2) (tithebarnref13_Parse.l0 (k + 1) y0 y1 y2)) ∧ (∀ y0 y1 y2, LeO (tithebarnref13_Parse.j1 k y0 y1 y2) (tithebarnref13_Parse.j1 (k + 1) y0 y1 y2)) ∧ (∀ y0 y1 y2 y3 y4 y5, LeO (tithebarnref13_Parse.l1 k y0 y1 y2 y3 y4 y5) (tithebarnref13_Parse.l1 (k + 1) y0 y1 y2 y3 y4 y5)) ∧ (∀ y0 y1 y2 y3 y4 y5 y6, LeO (tithebarnref13_Parse.j3 k y0 y1 y2 y3 y4 y5 y6) (tithebarnref13_Parse.j3 (k + 1) y0 y1 y2 y3 y4 y5 y6))
 | 0 => ⟨fun _ _ _ r h => by simp [tithebarnref13_Parse.l0] at h, fun _ _ _ r h => by simp [tithebarnref13_Parse.j1] at h, fun _ _ _ _ _ _ r h => by simp [tithebarnref13_Parse.l1] at h, fun _ _ _ _ _ _ _ r h => by simp [tithebarnref13_Parse.j3] at h⟩
 | k + 1 => by
  obtain ⟨ih0, ih1, ih2, ih3⟩ := tithebarnref13_Parse.mono_l k
  refine ⟨?_, ?_, ?_, ?_⟩
  · intro y0 y1 y2
    unfold tithebarnref13_Parse.l0
    repeat' first
    | (with_reducible exact ih0 _ _ _)
    | (with_reducible exact ih1 _ _ _)
    | (with_reducible exact ih2 _ _ _ _ _ _)
    | (with_reducible exact ih3 _ _ _ _ _ _ _)
    | (with_reducible exact tithebarnref13_number.mono _ _)
    | (with_reducible exact tithebarnref13_tag.mono _ _)
    | (with_reducible exact LeO.refl _)
    | (with_reducible exact LeO.none _)
    | (with_reducible refine LeO.ite ?_ ?_)
    | (with_reducible refine LeO.bind ?_ (fun _ => ?_))
    | exact ih0 _ _ _
    | exact ih1 _ _ _
    | exact ih2 _ _ _ _ _ _
    | exact ih3 _ _ _ _ _ _ _
    | exact tithebarnref13_number.mono _ _
    | exact tithebarnref13_tag.mono _ _
    | exact LeO.none _
    | refine LeO.ite ?_ ?_
    | refine LeO.bind ?_ (fun _ => ?_)
  · intro y0 y1 y2
    unfold tithebarnref13_Parse.j1
    repeat' first
    | (with_reducible exact ih0 _ _ _)
    | (with_reducible exact ih1 _ _ _)
    | (with_reducible exact ih2 _ _ _ _ _ _)
    | (with_reducible exact ih3 _ _ _ _ _ _ _)
    | (with_reducible exact tithebarnref13_number.mono _ _)
    | (with_reducible exact tithebarnref13_tag.mono _ _)
    | (with_reducible exact LeO.refl _)
    | (with_reducible exact LeO.none _)
    | (with_reducible refine LeO.ite ?_ ?_)
    | (with_reducible refine LeO.bind ?_ (fun _ => ?_))
    | exact ih0 _ _ _
    | exact ih1 _ _ _
    | exact ih2 _ _ _ _ _ _
    | exact ih3 _ _ _ _ _ _ _
    | exact tithebarnref13_number.mono _ _
    | exact tithebarnref13_tag.mono _ _
    | exact LeO.none _
    | refine LeO.ite ?_ ?_
    | refine LeO.bind ?_ (fun _ => ?_)
  · intro y0 y1 y2 y3 y4 y5
    unfold tithebarnref13_Parse.l1
    repeat' first
    | (with_reducible exact ih0 _ _ _)
    | (with_reducible exact ih1 _ _ _)
    | (with_reducible exact ih2 _ _ _ _ _ _)
    | (with_reducible exact ih3 _ _ _ _ _ _ _)
    | (with_reducible exact tithebarnref13_number.mono _ _)
    | (with_reducible exact tithebarnref13_tag.mono _ _)
    | (with_reducible exact LeO.refl _)
    | (with_reducible exact LeO.none _)
    | (with_reducible refine LeO.ite ?_ ?_)
    | (with_reducible refine LeO.bind ?_ (fun _ => ?_))
    | exact ih0 _ _ _
    | exact ih1 _ _ _
    | exact ih2 _ _ _ _ _ _
    | exact ih3 _ _ _ _ _ _ _
    | exact tithebarnref13_number.mono _ _
    | exact tithebarnref13_tag.mono _ _
    | exact LeO.none _
    | refine LeO.ite ?_ ?_
    | refine LeO.bind ?_ (fun _ => ?_)
  · intro y0 y1 y2 y3 y4 y5 y6
    unfold tithebarnref13_Parse.j3
    repeat' first
    | (with_reducible exact ih0 _ _ _)
    | (with_reducible exact ih1 _ _ _)
    | (with_reducible exact ih2 _ _ _ _ _ _)
    | (with_reducible exact ih3 _ _ _ _ _ _ _)
    | (with_reducible exact tithebarnref13_number.mono _ _)
    | (with_reducible exact tithebarnref13_tag.mono _ _)
    | (with_reducible exact LeO.refl _)
    | (with_reducible exact LeO.none _)
    | (with_reducible refine LeO.ite ?_ ?_)
    | (with_reducible refine LeO.bind ?_ (fun _ => ?_))
    | exact ih0 _ _ _
    | exact ih1 _ _ _
    | exact ih2 _ _ _ _ _ _
    | exact ih3 _ _ _ _ _ _ _
    | exact tithebarnref13_number.mono _ _
    | exact tithebarnref13_tag.mono _ _
    | exact LeO.none _
    | refine LeO.ite ?_ ?_
    | refine LeO.bind ?_ (fun _ => ?_)
theorem tithebarnref13_Parse.mono : ∀ a0 k, LeO (tithebarnref13_Parse.f k a0) (tithebarnref13_Parse.f (k + 1) a0) := by
 intro a0 k
 obtain ⟨ih0, ih1, ih2, ih3⟩ := tithebarnref13_Parse.mono_l k
 unfold tithebarnref13_Parse.f
 repeat' first
  | (with_reducible exact ih0 _ _ _)
  | (with_reducible exact ih1 _ _ _)
  | (with_reducible exact ih2 _ _ _ _ _ _)
  | (with_reducible exact ih3 _ _ _ _ _ _ _)
  | (with_reducible exact tithebarnref13_number.mono _ _)
  | (with_reducible exact tithebarnref13_tag.mono _ _)
  | (with_reducible exact LeO.refl _)
  | (with_reducible exact LeO.none _)
  | (with_reducible refine LeO.ite ?_ ?_)
  | (with_reducible refine LeO.bind ?_ (fun _ => ?_))
  | exact ih0 _ _ _
  | exact ih1 _ _ _
  | exact ih2 _ _ _ _ _ _
  | exact ih3 _ _ _ _ _ _ _
  | exact tithebarnref13_number.mono _ _
  | exact tithebarnref13_tag.mono _ _
  | exact LeO.none _
  | refine LeO.ite ?_ ?_
  | refine LeO.bind ?_ (fun _ => ?_)
set_option maxHeartbeats 8000000 in
set_option maxRecDepth 100000 in
theorem tithebarnref13_Parse.calls (k : Nat) (a0 : ByteArray) (r1 : List Int) (r2 : ByteArray) (r3 : Int) (w : World) (h : tithebarnref13_Parse.f k a0 = some (r1, r2, r3)) :
 Calls Tryz.prog 15 #[.string a0] w fun e w' => ∃ v0_ : Value, e = .returned (.tuple #[.agg #[v0_, .string r2], .int .i64 r3]) ∧ Kd.R (Kd.int .i64) 3 w' w.heap.size (fun _ => True) v0_ r1 ∧ Below w.heap.size w w' := by
 have hu30 := Tryz.underlying30
 have HB := Aside0.mk (Below.refl w.heap.size w)
 have H : (tithebarnref13_Parse.l0 k a0 (a0.size : Int) (wrap64 ((a0.size : Int) - 1))) = some (r1, r2, r3) := h
 clear h
 have H' := Aside0.mk H
 clear H
 go_enter Tryz.func15, Tryz.ntmps15
 go_wp2_with (first | ((with_reducible refine gate_dst (N := 2) rfl ?_); refine box_event ?hg (N := 2) ?hd (cs := #[.slice none 0 0, .string (⟨#[]⟩ : ByteArray)]) (t := 30) ?hr ?_; (case hd => rfl); (case hg => rfl); (case hr => first | (go_simp; done) | (go_simp; rfl)); intro gb107 hg w2 hbox hb; have BK107 := Aside0.mk (hbox); have GW107 := Aside0.mk ((by rw [hg]; exact (below_size tb) : w.heap.size ≤ gb107)); have GE107 := Aside0.mk ((by rw [hg]; exact (below_size tb) : w.heap.size ≤ gb107)); replace HB := Aside0.mk (below_step tb hb); clear hb hbox hg))
 go_loopg [4, 5] k (fun kq v4 v5 w' => ∃ (x4_1 : Int) (x5_1 : Int), v4 = .int .i64 x4_1 ∧ v5 = .int .i64 x5_1 ∧ Aside0 (tithebarnref13_Parse.l0 kq a0 x4_1 x5_1 = some (r1, r2, r3)) ∧ Aside0 (kq ≤ k) ∧ Aside0 (w'.heap[gb107]? = some (.cells #[(.slice none 0 0), .string (⟨#[]⟩ : ByteArray)] 30 (0, 0))) ∧ Aside0 (Below w.heap.size w w'))
 case atStart => exact ⟨((a0.size : Int)), (wrap64 ((a0.size : Int) - 1)), rf, rf, H', ⟨Nat.le_refl _⟩, ⟨by (with_reducible repeat (first | refine blk_drewN ?_ _ | refine blk_drew ?_ | refine blk_alloc ?_ _)); exact BK107.out⟩, ⟨tb⟩⟩
 case round =>
  clear H'
  try clear c1
  try clear p2
  obtain ⟨x4_1, x5_1, rfl, rfl, HA, HK1, BK107, HB⟩ := hrel
  cases gk with
  | zero => exact absurd HA.out (by simp [tithebarnref13_Parse.l0])
  | succ k1 =>
   have H := HA.out
   clear HA
   simp only [tithebarnref13_Parse.l0] at H
   by_cases c3 : x5_1 ≥ 0
   · rw [if_pos c3] at H
     have c3b0 : decide (0 ≤ x5_1) = true := decide_eq_true c3
     clear c3
     by_cases c4 : 0 ≤ x5_1
     rotate_left
     · rw [if_neg c4] at H
       exact absurd H (by simp)
     rw [if_pos c4] at H
     have c4b0 : decide (0 ≤ x5_1) = true := decide_eq_true c4
     clear c4
     by_cases c5 : x5_1 < (a0.size : Int)
     rotate_left
     · rw [if_neg c5] at H
       exact absurd H (by simp)
     rw [if_pos c5] at H
     have c5b0 : decide (x5_1 < (a0.size : Int)) = true := decide_eq_true c5
     clear c5
     by_cases c7 : (bt a0 x5_1) = 45
     rotate_left
     · rw [if_neg c7] at H
       have c7b0 : ((bt a0 x5_1) == 45) = false := beq_eq_false_iff_ne.mpr c7
       have c7b1 : ((bt a0 x5_1) != 45) = true := bne_iff_ne.mpr c7
       have H' := Aside0.mk H
       clear H
       have p6 : 0 ≤ (x5_1 : Int) := da
       have q6 : x5_1 < (a0.size : Int) := da
       have hx6 := bt_at a0 x5_1
       replace p6 := eq_true p6
       replace q6 := eq_true q6
       go_wp2
       go_roundg k1
       case measure => have := HK1.out; omega
       case rel => exact ⟨(x4_1), (wrap64 (x5_1 - 1)), rf, rf, H', ⟨by have := HK1.out; omega⟩, ⟨by (with_reducible repeat (first | refine blk_drewN ?_ _ | refine blk_drew ?_ | refine blk_alloc ?_ _)); exact BK107.out⟩, ⟨tb⟩⟩
     rw [if_pos c7] at H
     have c7b0 : ((bt a0 x5_1) == 45) = true := beq_iff_eq.mpr c7
     have c7b1 : ((bt a0 x5_1) != 45) = false := bne_eq_false_iff_eq.mpr c7
     clear c7
     have H' := Aside0.mk H
     clear H
     have p6 : 0 ≤ (x5_1 : Int) := da
     have q6 : x5_1 < (a0.size : Int) := da
     have hx6 := bt_at a0 x5_1
     replace p6 := eq_true p6
     replace q6 := eq_true q6
     go_wp2
     go_roundg k1
     case measure => have := HK1.out; omega
     case rel => exact ⟨(x5_1), (wrap64 (x5_1 - 1)), rf, rf, H', ⟨by have := HK1.out; omega⟩, ⟨by (with_reducible repeat (first | refine blk_drewN ?_ _ | refine blk_drew ?_ | refine blk_alloc ?_ _)); exact BK107.out⟩, ⟨tb⟩⟩
   rw [if_neg c3] at H
   have c3b0 : decide (0 ≤ x5_1) = false := decide_eq_false c3
   clear c3
   have HC8 := Aside0.mk H
   clear H
   go_upto_if 29 with (first | ((with_reducible refine gate_dst (N := 6) rfl ?_); refine box_event ?hg (N := 6) ?hd (cs := #[.slice none 0 0, .string (⟨#[]⟩ : ByteArray)]) (t := 30) ?hr ?_; (case hd => rfl); (case hg => rfl); (case hr => first | (go_simp; done) | (go_simp; rfl)); intro gb108 hg w9 hbox hb; have BK108 := Aside0.mk (hbox); have GW108 := Aside0.mk ((by rw [hg]; exact (below_size tb) : w.heap.size ≤ gb108)); have GE108 := Aside0.mk ((by rw [hg]; exact (below_size tb) : w.heap.size ≤ gb108)); replace HB := Aside0.mk (below_step tb hb); have NB107_108 := Aside0.mk ((by rw [hg]; exact Nat.ne_of_lt (blk_lt (g := gb107) (o := .cells #[.slice none 0 0, .string (⟨#[]⟩ : ByteArray)] 30 (0, 0)) tk) : gb107 ≠ gb108)); have NB108_107 := Aside0.mk ((by rw [hg]; exact Nat.ne_of_gt (blk_lt (g := gb107) (o := .cells #[.slice none 0 0, .string (⟨#[]⟩ : ByteArray)] 30 (0, 0)) tk) : gb108 ≠ gb107)); replace BK107 := Aside0.mk (blk_below (g := gb107) (o := .cells #[.slice none 0 0, .string (⟨#[]⟩ : ByteArray)] 30 (0, 0)) tk hb); clear hb hbox hg; have hnb10 := NB108_107.out; have hnc10 := NB107_108.out; have hcz11_0 : w9.cell? ⟨gb108, 0, none⟩ = some (.slice none 0 0) := (blk_cell BK108.out 0).trans rfl; have hcz11_1 : w9.cell? ⟨gb108, 1, none⟩ = some (.string (⟨#[]⟩ : ByteArray)) := (blk_cell BK108.out 1).trans rfl; have hfz11_0 := blk_frozen BK108.out 0; have hfz11_1 := blk_frozen BK108.out 1))
   (try simp only [Act.put, List.setIfInBounds_toArray, List.set_cons_zero, List.set_cons_succ])
   go_cut [] (fun wc => ∃ (kq : Nat) (x108001_7 : ByteArray) (x109001_7 : ByteArray), Aside0 (tithebarnref13_Parse.j1 kq a0 x4_1 x109001_7 = some (r1, r2, r3)) ∧ Aside0 (kq ≤ k1) ∧ Aside0 (wc.heap[gb107]? = some (.cells #[(.slice none 0 0), .string x108001_7] 30 (0, 0))) ∧ Aside0 (wc.heap[gb108]? = some (.cells #[(.slice none 0 0), .string x109001_7] 30 (0, 0))) ∧ Aside0 (Below w.heap.size w wc))
   case first =>
    have H := HC8.out
    clear HC8
    by_cases c12 : x4_1 < (a0.size : Int)
    rotate_left
    · rw [if_neg c12] at H
      have c12b0 : decide (x4_1 < (a0.size : Int)) = false := decide_eq_false c12
      clear c12
      (first | rw [c12b0] | (simp only [i64_w, i32_w]; rw [c12b0]) | skip)
      have H' := Aside0.mk H
      clear H
      go_wp2
      go_meet
      case rel => exact ⟨_, ((⟨#[]⟩ : ByteArray)), ((⟨#[]⟩ : ByteArray)), H', ⟨by have := HK1.out; first | omega | exact Nat.le_refl _⟩, ⟨by (with_reducible repeat (first | refine blk_drewN ?_ _ | refine blk_drew ?_ | refine blk_alloc ?_ _)); refine blk_far ?_ NB107_108.out _; (with_reducible repeat (first | refine blk_drewN ?_ _ | refine blk_drew ?_ | refine blk_alloc ?_ _)); refine blk_far ?_ NB107_108.out _; (with_reducible repeat (first | refine blk_drewN ?_ _ | refine blk_drew ?_ | refine blk_alloc ?_ _)); exact BK107.out⟩, ⟨by (with_reducible repeat (first | refine blk_drewN ?_ _ | refine blk_drew ?_ | refine blk_alloc ?_ _)); refine blk_put (cs := #[.slice none 0 0, .string (⟨#[]⟩ : ByteArray)]) ?_ 1 _ rfl; (with_reducible repeat (first | refine blk_drewN ?_ _ | refine blk_drew ?_ | refine blk_alloc ?_ _)); refine blk_put (cs := #[.slice none 0 0, .string (⟨#[]⟩ : ByteArray)]) ?_ 0 _ rfl; (with_reducible repeat (first | refine blk_drewN ?_ _ | refine blk_drew ?_ | refine blk_alloc ?_ _)); exact BK108.out⟩, ⟨tb⟩⟩
    rw [if_pos c12] at H
    have c12b0 : decide (x4_1 < (a0.size : Int)) = true := decide_eq_true c12
    clear c12
    (first | rw [c12b0] | (simp only [i64_w, i32_w]; rw [c12b0]) | skip)
    obtain ⟨ji13, hji13⟩ : ∃ j_ : Int, (wrap64 (x4_1 + 1)) = j_ := ⟨_, rfl⟩
    replace H : (if 0 ≤ (ji13) then (if (ji13) ≤ (a0.size : Int) then (if (a0.extract ((ji13) : Int).toNat a0.size).toList = ([] : List UInt8) then (some (([] : List Int), (⟨#[]⟩ : ByteArray), 130)) else ((tithebarnref13_tag.f k1 (a0.extract ((ji13) : Int).toNat a0.size)).bind fun t109 => (if t109 = true then (tithebarnref13_Parse.j1 k1 a0 x4_1 (a0.extract ((ji13) : Int).toNat a0.size)) else (some (([] : List Int), (⟨#[]⟩ : ByteArray), 130))))) else (none)) else (none)) = some (r1, r2, r3) := by first | (rw [hji13] at H; exact H) | (simp only [hji13] at H ⊢; exact H)
    have hji13w : (IntKind.i64.wrap (x4_1 + 1)) = ji13 := (i64_w _).trans hji13
    by_cases c14 : 0 ≤ (ji13)
    rotate_left
    · rw [if_neg c14] at H
      exact absurd H (by simp)
    rw [if_pos c14] at H
    have c14b0 := eq_true c14
    have c14b1 : decide (0 ≤ (ji13)) = true := decide_eq_true c14
    clear c14
    by_cases c15 : (ji13) ≤ (a0.size : Int)
    rotate_left
    · rw [if_neg c15] at H
      exact absurd H (by simp)
    rw [if_pos c15] at H
    have c15b0 := eq_true c15
    have c15b1 : decide ((ji13) ≤ (a0.size : Int)) = true := decide_eq_true c15
    clear c15
    by_cases c16 : (a0.extract ((ji13) : Int).toNat a0.size).toList = ([] : List UInt8)
    · rw [if_pos c16] at H
      have c16b0 : ((a0.extract ((ji13) : Int).toNat a0.size).toList == ([] : List UInt8)) = true := beq_iff_eq.mpr c16
      have c16b1 : ((a0.extract ((ji13) : Int).toNat a0.size).toList != ([] : List UInt8)) = false := bne_eq_false_iff_eq.mpr c16
      clear c16
      simp only [Option.some.injEq, Prod.mk.injEq] at H
      obtain ⟨rfl, rfl, rfl⟩ := H
      have hnb17 := NB108_107.out
      have hnc17 := NB107_108.out
      have hcz18_0 : w9.cell? ⟨gb108, 0, none⟩ = some (.slice none 0 0) := (blk_cell BK108.out 0).trans rfl
      have hcz18_1 : w9.cell? ⟨gb108, 1, none⟩ = some (.string (⟨#[]⟩ : ByteArray)) := (blk_cell BK108.out 1).trans rfl
      have hfz18_0 := blk_frozen BK108.out 0
      have hfz18_1 := blk_frozen BK108.out 1
      have hcz19_0 : w9.cell? ⟨gb107, 0, none⟩ = some (.slice none 0 0) := (blk_cell BK107.out 0).trans rfl
      have hcz19_1 : w9.cell? ⟨gb107, 1, none⟩ = some (.string (⟨#[]⟩ : ByteArray)) := (blk_cell BK107.out 1).trans rfl
      have hfz19_0 := blk_frozen BK107.out 0
      have hfz19_1 := blk_frozen BK107.out 1
      go_wp2
      refine bodyPost_ret (results_ct rfl _ _ gb107 30 #[.slice none 0 0, .string (⟨#[]⟩ : ByteArray)] (0, 0) _ rfl (by (with_reducible repeat (first | refine blk_drewN ?_ _ | refine blk_drew ?_ | refine blk_alloc ?_ _)); refine blk_put (cs := #[.slice none 0 0, .string (⟨#[]⟩ : ByteArray)]) ?_ 1 _ rfl; (with_reducible repeat (first | refine blk_drewN ?_ _ | refine blk_drew ?_ | refine blk_alloc ?_ _)); refine blk_put (cs := #[.slice none 0 0, .string (⟨#[]⟩ : ByteArray)]) ?_ 0 _ rfl; (with_reducible repeat (first | refine blk_drewN ?_ _ | refine blk_drew ?_ | refine blk_alloc ?_ _)); refine blk_far ?_ NB107_108.out _; (with_reducible repeat (first | refine blk_drewN ?_ _ | refine blk_drew ?_ | refine blk_alloc ?_ _)); refine blk_far ?_ NB107_108.out _; (with_reducible repeat (first | refine blk_drewN ?_ _ | refine blk_drew ?_ | refine blk_alloc ?_ _)); refine blk_far ?_ NB107_108.out _; (with_reducible repeat (first | refine blk_drewN ?_ _ | refine blk_drew ?_ | refine blk_alloc ?_ _)); exact BK107.out) Tryz.underlying30 rfl (by kernel_rfl)) rfl ?_
      exact ⟨_, by first | rfl | (simp [errW_none, errW_some] <;> rfl) | (simp only [← hji13]; first | rfl | (simp [errW_none, errW_some] <;> rfl)) | (simp [*, errW_none, errW_some] <;> rfl), by first | exact Kd.R_nil _ _ _ _ _ | exact Kd.N_nil _ _ _ _ _ | exact Kd.V_nil _ _ _ _ _ | exact Kd.Q_nil _ _ _ _ _ | exact Kd.S_nil _ _ _ _ _, tb⟩
    rw [if_neg c16] at H
    have c16b0 : ((a0.extract ((ji13) : Int).toNat a0.size).toList == ([] : List UInt8)) = false := beq_eq_false_iff_ne.mpr c16
    have c16b1 : ((a0.extract ((ji13) : Int).toNat a0.size).toList != ([] : List UInt8)) = true := bne_iff_ne.mpr c16
    obtain ⟨t109, A200, H⟩ := Option.bind_eq_some_iff.mp H
    have A20 := Aside0.mk A200
    clear A200
    by_cases c21 : t109 = true
    · subst c21
      rw [if_pos rfl] at H
      have H' := Aside0.mk H
      clear H
      have hnb22 := NB108_107.out
      have hnc22 := NB107_108.out
      have hcz23_0 : w9.cell? ⟨gb108, 0, none⟩ = some (.slice none 0 0) := (blk_cell BK108.out 0).trans rfl
      have hcz23_1 : w9.cell? ⟨gb108, 1, none⟩ = some (.string (⟨#[]⟩ : ByteArray)) := (blk_cell BK108.out 1).trans rfl
      have hfz23_0 := blk_frozen BK108.out 0
      have hfz23_1 := blk_frozen BK108.out 1
      go_wp2_with (first | (go_at_call 42; (with_reducible refine (tithebarnref13_tag.calls k1 (a0.extract ((ji13) : Int).toNat a0.size) true _ A20.out).mono ?_); rintro e w' ⟨rfl, ⟨nd, rfl⟩⟩))
      go_meet
      case rel => exact ⟨_, ((⟨#[]⟩ : ByteArray)), (a0.extract ((ji13) : Int).toNat a0.size), H', ⟨by have := HK1.out; first | omega | exact Nat.le_refl _⟩, ⟨by (with_reducible repeat (first | refine blk_drewN ?_ _ | refine blk_drew ?_ | refine blk_alloc ?_ _)); refine blk_far ?_ NB107_108.out _; (with_reducible repeat (first | refine blk_drewN ?_ _ | refine blk_drew ?_ | refine blk_alloc ?_ _)); refine blk_far ?_ NB107_108.out _; (with_reducible repeat (first | refine blk_drewN ?_ _ | refine blk_drew ?_ | refine blk_alloc ?_ _)); refine blk_far ?_ NB107_108.out _; (with_reducible repeat (first | refine blk_drewN ?_ _ | refine blk_drew ?_ | refine blk_alloc ?_ _)); exact BK107.out⟩, ⟨by (with_reducible repeat (first | refine blk_drewN ?_ _ | refine blk_drew ?_ | refine blk_alloc ?_ _)); refine blk_put (cs := #[.slice none 0 0, .string (⟨#[]⟩ : ByteArray)]) ?_ 1 _ rfl; (with_reducible repeat (first | refine blk_drewN ?_ _ | refine blk_drew ?_ | refine blk_alloc ?_ _)); refine blk_put (cs := #[.slice none 0 0, .string (⟨#[]⟩ : ByteArray)]) ?_ 1 _ rfl; (with_reducible repeat (first | refine blk_drewN ?_ _ | refine blk_drew ?_ | refine blk_alloc ?_ _)); refine blk_put (cs := #[.slice none 0 0, .string (⟨#[]⟩ : ByteArray)]) ?_ 0 _ rfl; (with_reducible repeat (first | refine blk_drewN ?_ _ | refine blk_drew ?_ | refine blk_alloc ?_ _)); exact BK108.out⟩, ⟨tb⟩⟩
    replace c21 := Bool.eq_false_iff.mpr c21
    subst c21
    rw [if_neg (show ¬ (false = true) by decide)] at H
    simp only [Option.some.injEq, Prod.mk.injEq] at H
    obtain ⟨rfl, rfl, rfl⟩ := H
    have hnb24 := NB108_107.out
    have hnc24 := NB107_108.out
    have hcz25_0 : w9.cell? ⟨gb108, 0, none⟩ = some (.slice none 0 0) := (blk_cell BK108.out 0).trans rfl
    have hcz25_1 : w9.cell? ⟨gb108, 1, none⟩ = some (.string (⟨#[]⟩ : ByteArray)) := (blk_cell BK108.out 1).trans rfl
    have hfz25_0 := blk_frozen BK108.out 0
    have hfz25_1 := blk_frozen BK108.out 1
    go_wp2_with (first | (go_at_call 42; (with_reducible refine (tithebarnref13_tag.calls k1 (a0.extract ((ji13) : Int).toNat a0.size) false _ A20.out).mono ?_); rintro e w' ⟨rfl, ⟨nd, rfl⟩⟩; have hcz26_0 : w9.cell? ⟨gb107, 0, none⟩ = some (.slice none 0 0) := (blk_cell BK107.out 0).trans rfl; have hcz26_1 : w9.cell? ⟨gb107, 1, none⟩ = some (.string (⟨#[]⟩ : ByteArray)) := (blk_cell BK107.out 1).trans rfl; have hfz26_0 := blk_frozen BK107.out 0; have hfz26_1 := blk_frozen BK107.out 1))
    refine bodyPost_ret (results_ct rfl _ _ gb107 30 #[.slice none 0 0, .string (⟨#[]⟩ : ByteArray)] (0, 0) _ rfl (by (with_reducible repeat (first | refine blk_drewN ?_ _ | refine blk_drew ?_ | refine blk_alloc ?_ _)); refine blk_put (cs := #[.slice none 0 0, .string (⟨#[]⟩ : ByteArray)]) ?_ 1 _ rfl; (with_reducible repeat (first | refine blk_drewN ?_ _ | refine blk_drew ?_ | refine blk_alloc ?_ _)); refine blk_put (cs := #[.slice none 0 0, .string (⟨#[]⟩ : ByteArray)]) ?_ 0 _ rfl; (with_reducible repeat (first | refine blk_drewN ?_ _ | refine blk_drew ?_ | refine blk_alloc ?_ _)); refine blk_far ?_ NB107_108.out _; (with_reducible repeat (first | refine blk_drewN ?_ _ | refine blk_drew ?_ | refine blk_alloc ?_ _)); refine blk_far ?_ NB107_108.out _; (with_reducible repeat (first | refine blk_drewN ?_ _ | refine blk_drew ?_ | refine blk_alloc ?_ _)); refine blk_far ?_ NB107_108.out _; (with_reducible repeat (first | refine blk_drewN ?_ _ | refine blk_drew ?_ | refine blk_alloc ?_ _)); exact BK107.out) Tryz.underlying30 rfl (by kernel_rfl)) rfl ?_
    exact ⟨_, by first | rfl | (simp [errW_none, errW_some] <;> rfl) | (simp only [← hji13]; first | rfl | (simp [errW_none, errW_some] <;> rfl)) | (simp [*, errW_none, errW_some] <;> rfl), by first | exact Kd.R_nil _ _ _ _ _ | exact Kd.N_nil _ _ _ _ _ | exact Kd.V_nil _ _ _ _ _ | exact Kd.Q_nil _ _ _ _ _ | exact Kd.S_nil _ _ _ _ _, tb⟩
   case rest =>
    clear HC8
    try clear c1
    try clear c2
    try clear p2
    try clear c3
    try clear c3b0
    try clear c4
    try clear c4b0
    try clear c5
    try clear c5b0
    try clear p6
    try clear q6
    try clear hx6
    try clear c7
    try clear c7b0
    try clear c7b1
    try clear c10
    try clear c12
    try clear c12b0
    try clear c14
    try clear c14b0
    try clear c14b1
    try clear c15
    try clear c15b0
    try clear c15b1
    try clear c16
    try clear c16b0
    try clear c16b1
    try clear c17
    try clear c21
    try clear c22
    try clear c24
    try clear hcz11_0
    try clear hcz11_1
    try clear hcz18_0
    try clear hcz18_1
    try clear hcz19_0
    try clear hcz19_1
    try clear hcz23_0
    try clear hcz23_1
    try clear hcz25_0
    try clear hcz25_1
    try clear hcz26_0
    try clear hcz26_1
    try clear hfz11_0
    try clear hfz11_1
    try clear hfz18_0
    try clear hfz18_1
    try clear hfz19_0
    try clear hfz19_1
    try clear hfz23_0
    try clear hfz23_1
    try clear hfz25_0
    try clear hfz25_1
    try clear hfz26_0
    try clear hfz26_1
    try clear p2
    try clear p6
    try clear q6
    obtain ⟨kq, x108001_7, x109001_7, HA, HJ7, BK107, BK108, HB⟩ := hcut
    cases kq with
    | zero => exact absurd HA.out (by simp [tithebarnref13_Parse.j1])
    | succ kj7 =>
     have H := HA.out
     clear HA
     simp only [tithebarnref13_Parse.j1] at H
     have H' := Aside0.mk H
     clear H
     go_wp2
     go_loopg [7, 8] kj7 (fun kq v7 v8 w' => ∃ (x7_3 : Int) (x8_3 : Int) (x108001_3 : ByteArray) (x109000_3 : List Int) (u109000 : Value), v7 = .int .i64 x7_3 ∧ v8 = .int .i64 x8_3 ∧ Aside0 (tithebarnref13_Parse.l1 kq a0 x4_1 x7_3 x8_3 x109000_3 x109001_7 = some (r1, r2, r3)) ∧ Aside0 (kq ≤ kj7) ∧ Aside0 (Kd.R (Kd.int .i64) 3 w' w.heap.size (fun _ => True) u109000 x109000_3) ∧ Aside0 (w'.heap[gb107]? = some (.cells #[(.slice none 0 0), .string x108001_3] 30 (0, 0))) ∧ Aside0 (w'.heap[gb108]? = some (.cells #[u109000, .string x109001_7] 30 (0, 0))) ∧ Aside0 (Below w.heap.size w w'))
     case atStart => exact ⟨(0), (0), (x108001_7), (([] : List Int)), (.slice none 0 0), rf, rf, H', ⟨Nat.le_refl _⟩, ⟨by first | exact Kd.R_nil _ _ _ _ _ | exact Kd.N_nil _ _ _ _ _ | exact Kd.V_nil _ _ _ _ _ | exact Kd.Q_nil _ _ _ _ _ | exact Kd.S_nil _ _ _ _ _⟩, ⟨by (with_reducible repeat (first | refine blk_drewN ?_ _ | refine blk_drew ?_ | refine blk_alloc ?_ _)); exact BK107.out⟩, ⟨by (with_reducible repeat (first | refine blk_drewN ?_ _ | refine blk_drew ?_ | refine blk_alloc ?_ _)); exact BK108.out⟩, ⟨tb⟩⟩
     case round =>
      clear H'
      try clear c1
      try clear c2
      try clear p2
      try clear c3
      try clear c3b0
      try clear c4
      try clear c4b0
      try clear c5
      try clear c5b0
      try clear p6
      try clear q6
      try clear hx6
      try clear c7
      try clear c7b0
      try clear c7b1
      try clear c10
      try clear c12
      try clear c12b0
      try clear c14
      try clear c14b0
      try clear c14b1
      try clear c15
      try clear c15b0
      try clear c15b1
      try clear c16
      try clear c16b0
      try clear c16b1
      try clear c17
      try clear c21
      try clear c22
      try clear c24
      try clear hcz11_0
      try clear hcz11_1
      try clear hcz18_0
      try clear hcz18_1
      try clear hcz19_0
      try clear hcz19_1
      try clear hcz23_0
      try clear hcz23_1
      try clear hcz25_0
      try clear hcz25_1
      try clear hcz26_0
      try clear hcz26_1
      try clear hfz11_0
      try clear hfz11_1
      try clear hfz18_0
      try clear hfz18_1
      try clear hfz19_0
      try clear hfz19_1
      try clear hfz23_0
      try clear hfz23_1
      try clear hfz25_0
      try clear hfz25_1
      try clear hfz26_0
      try clear hfz26_1
      try clear p2
      try clear p6
      try clear q6
      obtain ⟨x7_3, x8_3, x108001_3, x109000_3, u109000, rfl, rfl, HA, HK3, HO_109000, BK107, BK108, HB⟩ := hrel
      cases gk with
      | zero => exact absurd HA.out (by simp [tithebarnref13_Parse.l1])
      | succ k3 =>
       have H := HA.out
       clear HA
       simp only [tithebarnref13_Parse.l1] at H
       by_cases c27 : x8_3 ≤ x4_1
       rotate_left
       · rw [if_neg c27] at H
         have c27b0 : decide (x8_3 ≤ x4_1) = false := decide_eq_false c27
         clear c27
         by_cases c47 : (x109000_3.length : Int) > 8
         · rw [if_pos c47] at H
           have c47b0 : decide (8 < (x109000_3.length : Int)) = true := decide_eq_true c47
           have c47b1 : decide (8 < x109000_3.length) = true := decide_eq_true (by omega)
           clear c47
           simp only [Option.some.injEq, Prod.mk.injEq] at H
           obtain ⟨rfl, rfl, rfl⟩ := H
           have hnb48 := NB108_107.out
           have hnc48 := NB107_108.out
           have hcz49_0 : wr.cell? ⟨gb108, 0, none⟩ = some (u109000) := (blk_cell BK108.out 0).trans rfl
           have hcz49_1 : wr.cell? ⟨gb108, 1, none⟩ = some (.string x109001_7) := (blk_cell BK108.out 1).trans rfl
           have hfz49_0 := blk_frozen BK108.out 0
           have hfz49_1 := blk_frozen BK108.out 1
           obtain ⟨Ao50, co50, eo50⟩ := Kd.R_slice HO_109000.out
           subst eo50
           have hcz51_0 : wr.cell? ⟨gb107, 0, none⟩ = some (.slice none 0 0) := (blk_cell BK107.out 0).trans rfl
           have hcz51_1 : wr.cell? ⟨gb107, 1, none⟩ = some (.string x108001_3) := (blk_cell BK107.out 1).trans rfl
           have hfz51_0 := blk_frozen BK107.out 0
           have hfz51_1 := blk_frozen BK107.out 1
           go_wp2
           refine bodyPost_ret (results_ct rfl _ _ gb107 30 #[.slice none 0 0, .string (⟨#[]⟩ : ByteArray)] (0, 0) _ rfl (by (with_reducible repeat (first | refine blk_drewN ?_ _ | refine blk_drew ?_ | refine blk_alloc ?_ _)); refine blk_put (cs := #[.slice none 0 0, .string x108001_3]) ?_ 1 _ rfl; (with_reducible repeat (first | refine blk_drewN ?_ _ | refine blk_drew ?_ | refine blk_alloc ?_ _)); refine blk_put (cs := #[.slice none 0 0, .string x108001_3]) ?_ 0 _ rfl; (with_reducible repeat (first | refine blk_drewN ?_ _ | refine blk_drew ?_ | refine blk_alloc ?_ _)); exact BK107.out) Tryz.underlying30 rfl (by kernel_rfl)) rfl ?_
           exact ⟨_, by first | rfl | (simp [errW_none, errW_some] <;> rfl) | (simp [*, errW_none, errW_some] <;> rfl), by first | exact Kd.R_nil _ _ _ _ _ | exact Kd.N_nil _ _ _ _ _ | exact Kd.V_nil _ _ _ _ _ | exact Kd.Q_nil _ _ _ _ _ | exact Kd.S_nil _ _ _ _ _, tb⟩
         rw [if_neg c47] at H
         have c47b0 : decide (8 < (x109000_3.length : Int)) = false := decide_eq_false c47
         have c47b1 : decide (8 < x109000_3.length) = false := decide_eq_false (by omega)
         clear c47
         simp only [Option.some.injEq, Prod.mk.injEq] at H
         obtain ⟨rfl, rfl, rfl⟩ := H
         have hnb52 := NB108_107.out
         have hnc52 := NB107_108.out
         have hcz53_0 : wr.cell? ⟨gb108, 0, none⟩ = some (u109000) := (blk_cell BK108.out 0).trans rfl
         have hcz53_1 : wr.cell? ⟨gb108, 1, none⟩ = some (.string x109001_7) := (blk_cell BK108.out 1).trans rfl
         have hfz53_0 := blk_frozen BK108.out 0
         have hfz53_1 := blk_frozen BK108.out 1
         obtain ⟨Ao54, co54, eo54⟩ := Kd.R_slice HO_109000.out
         subst eo54
         have hcz55_0 : wr.cell? ⟨gb107, 0, none⟩ = some (.slice none 0 0) := (blk_cell BK107.out 0).trans rfl
         have hcz55_1 : wr.cell? ⟨gb107, 1, none⟩ = some (.string x108001_3) := (blk_cell BK107.out 1).trans rfl
         have hfz55_0 := blk_frozen BK107.out 0
         have hfz55_1 := blk_frozen BK107.out 1
         go_wp2
         refine bodyPost_ret (results_ct rfl _ _ gb107 30 #[.slice Ao54 x109000_3.length co54, .string x109001_7] (0, 0) _ rfl (by (with_reducible repeat (first | refine blk_drewN ?_ _ | refine blk_drew ?_ | refine blk_alloc ?_ _)); refine blk_put (cs := #[.slice Ao54 x109000_3.length co54, .string x108001_3]) ?_ 1 _ rfl; (with_reducible repeat (first | refine blk_drewN ?_ _ | refine blk_drew ?_ | refine blk_alloc ?_ _)); refine blk_put (cs := #[.slice none 0 0, .string x108001_3]) ?_ 0 _ rfl; (with_reducible repeat (first | refine blk_drewN ?_ _ | refine blk_drew ?_ | refine blk_alloc ?_ _)); exact BK107.out) Tryz.underlying30 rfl (by kernel_rfl)) rfl ?_
         exact ⟨_, by first | rfl | (simp [errW_none, errW_some] <;> rfl) | (simp [*, errW_none, errW_some] <;> rfl), by (with_reducible repeat (first | apply Kd.R_alloc | apply Kd.R_drewN | apply Kd.R_drew)); exact Kd.R_mono (Kd.R_far (p := ⟨gb107, 1, none⟩) (Kd.R_far (p := ⟨gb107, 0, none⟩) (Kd.R_types HO_109000.out BK107.out (by decide)) (fun _ hk => hk.2) (.slice Ao54 x109000_3.length co54)) (fun _ hk => hk.2) (.string x109001_7)) (fun _ hk => trivial), tb⟩

       rw [if_pos c27] at H
       have c27b0 : decide (x8_3 ≤ x4_1) = true := decide_eq_true c27
       clear c27
       have HC28 := Aside0.mk H
       clear H
       go_upto_region 16 with (fail)
       go_cut [58] (fun v58 wc => ∃ (kq : Nat) (x58_27 : Bool), v58 = .bool x58_27 ∧ Aside0 (tithebarnref13_Parse.j3 kq a0 x4_1 x7_3 x8_3 x58_27 x109000_3 x109001_7 = some (r1, r2, r3)) ∧ Aside0 (kq ≤ k3) ∧ Aside0 (Kd.R (Kd.int .i64) 3 wc w.heap.size (fun _ => True) u109000 x109000_3) ∧ Aside0 (wc.heap[gb107]? = some (.cells #[(.slice none 0 0), .string x108001_3] 30 (0, 0))) ∧ Aside0 (wc.heap[gb108]? = some (.cells #[u109000, .string x109001_7] 30 (0, 0))) ∧ Aside0 (Below w.heap.size w wc))
       case first =>
        have H := HC28.out
        clear HC28
        by_cases c29 : x8_3 < x4_1
        rotate_left
        · rw [if_neg c29] at H
          have c29b0 : decide (x8_3 < x4_1) = false := decide_eq_false c29
          clear c29
          (first | rw [c29b0] | (simp only [i64_w, i32_w]; rw [c29b0]) | skip)
          have H' := Aside0.mk H
          clear H
          go_wp2
          go_meet
          case rel => exact ⟨_, (false), rf, H', ⟨by have := HK1.out; have := HJ7.out; have := HK3.out; first | omega | exact Nat.le_refl _⟩, ⟨pR HO_109000.out⟩, ⟨by (with_reducible repeat (first | refine blk_drewN ?_ _ | refine blk_drew ?_ | refine blk_alloc ?_ _)); exact BK107.out⟩, ⟨by (with_reducible repeat (first | refine blk_drewN ?_ _ | refine blk_drew ?_ | refine blk_alloc ?_ _)); exact BK108.out⟩, ⟨tb⟩⟩
        rw [if_pos c29] at H
        have c29b0 : decide (x8_3 < x4_1) = true := decide_eq_true c29
        clear c29
        (first | rw [c29b0] | (simp only [i64_w, i32_w]; rw [c29b0]) | skip)
        by_cases c30 : 0 ≤ x8_3
        rotate_left
        · rw [if_neg c30] at H
          exact absurd H (by simp)
        rw [if_pos c30] at H
        have c30b0 : decide (0 ≤ x8_3) = true := decide_eq_true c30
        clear c30
        by_cases c31 : x8_3 < (a0.size : Int)
        rotate_left
        · rw [if_neg c31] at H
          exact absurd H (by simp)
        rw [if_pos c31] at H
        have c31b0 : decide (x8_3 < (a0.size : Int)) = true := decide_eq_true c31
        clear c31
        have H' := Aside0.mk H
        clear H
        have p32 : 0 ≤ (x8_3 : Int) := da
        have q32 : x8_3 < (a0.size : Int) := da
        have hx32 := bt_at a0 x8_3
        replace p32 := eq_true p32
        replace q32 := eq_true q32
        go_wp2
        go_meet
        case rel => exact ⟨_, (((bt a0 x8_3) != 46)), rf, H', ⟨by have := HK1.out; have := HJ7.out; have := HK3.out; first | omega | exact Nat.le_refl _⟩, ⟨pR HO_109000.out⟩, ⟨by (with_reducible repeat (first | refine blk_drewN ?_ _ | refine blk_drew ?_ | refine blk_alloc ?_ _)); exact BK107.out⟩, ⟨by (with_reducible repeat (first | refine blk_drewN ?_ _ | refine blk_drew ?_ | refine blk_alloc ?_ _)); exact BK108.out⟩, ⟨tb⟩⟩
       case rest =>
        clear HC28
        try clear c1
        try clear c2
        try clear p2
        try clear c3
        try clear c3b0
        try clear p3
        try clear q3
        try clear hx3
        try clear c4
        try clear c4b0
        try clear c5
        try clear c5b0
        try clear p6
        try clear q6
        try clear hx6
        try clear c7
        try clear c7b0
        try clear c7b1
        try clear c10
        try clear c12
        try clear c12b0
        try clear c14
        try clear c14b0
        try clear c14b1
        try clear c15
        try clear c15b0
        try clear c15b1
        try clear c16
        try clear c16b0
        try clear c16b1
        try clear c17
        try clear c21
        try clear c22
        try clear c24
        try clear c27
        try clear c27b0
        try clear c29
        try clear c29b0
        try clear c30
        try clear c30b0
        try clear c31
        try clear c31b0
        try clear p32
        try clear q32
        try clear hx32
        try clear hcz11_0
        try clear hcz11_1
        try clear hcz18_0
        try clear hcz18_1
        try clear hcz19_0
        try clear hcz19_1
        try clear hcz23_0
        try clear hcz23_1
        try clear hcz25_0
        try clear hcz25_1
        try clear hcz26_0
        try clear hcz26_1
        try clear hfz11_0
        try clear hfz11_1
        try clear hfz18_0
        try clear hfz18_1
        try clear hfz19_0
        try clear hfz19_1
        try clear hfz23_0
        try clear hfz23_1
        try clear hfz25_0
        try clear hfz25_1
        try clear hfz26_0
        try clear hfz26_1
        try clear p2
        try clear p32
        try clear p6
        try clear q32
        try clear q6
        obtain ⟨kq, x58_27, rfl, HA, HJ27, HO_109000, BK107, BK108, HB⟩ := hcut
        cases kq with
        | zero => exact absurd HA.out (by simp [tithebarnref13_Parse.j3])
        | succ kj27 =>
         have H := HA.out
         clear HA
         simp only [tithebarnref13_Parse.j3] at H
         by_cases c33 : x58_27 = true
         · subst c33
           rw [if_pos rfl] at H
           have H' := Aside0.mk H
           clear H
           go_wp2
           go_roundg kj27
           case measure => have := HK1.out; have := HJ7.out; have := HK3.out; have := HJ27.out; omega
           case rel => exact ⟨(x7_3), (wrap64 (x8_3 + 1)), (x108001_3), (x109000_3), (u109000), rf, rf, H', ⟨by have := HK1.out; have := HJ7.out; have := HK3.out; have := HJ27.out; omega⟩, ⟨pR HO_109000.out⟩, ⟨by (with_reducible repeat (first | refine blk_drewN ?_ _ | refine blk_drew ?_ | refine blk_alloc ?_ _)); exact BK107.out⟩, ⟨by (with_reducible repeat (first | refine blk_drewN ?_ _ | refine blk_drew ?_ | refine blk_alloc ?_ _)); exact BK108.out⟩, ⟨tb⟩⟩
         replace c33 := Bool.eq_false_iff.mpr c33
         subst c33
         rw [if_neg (show ¬ (false = true) by decide)] at H
         by_cases c34 : 0 ≤ x7_3
         rotate_left
         · rw [if_neg c34] at H
           exact absurd H (by simp)
         rw [if_pos c34] at H
         have c34b0 := eq_true c34
         have c34b1 : decide (0 ≤ x7_3) = true := decide_eq_true c34
         clear c34
         by_cases c35 : x7_3 ≤ x8_3
         rotate_left
         · rw [if_neg c35] at H
           exact absurd H (by simp)
         rw [if_pos c35] at H
         have c35b0 := eq_true c35
         have c35b1 : decide (x7_3 ≤ x8_3) = true := decide_eq_true c35
         clear c35
         by_cases c36 : x8_3 ≤ (a0.size : Int)
         rotate_left
         · rw [if_neg c36] at H
           exact absurd H (by simp)
         rw [if_pos c36] at H
         have c36b0 := eq_true c36
         have c36b1 : decide (x8_3 ≤ (a0.size : Int)) = true := decide_eq_true c36
         clear c36
         replace H := Option.bind_eq_some_iff.mp H
         obtain ⟨⟨t110, t111⟩, A370, H⟩ := H
         replace H : (if t111 = true then (if x109000_3.length < 17592186044416 then (tithebarnref13_Parse.l1 kj27 a0 x4_1 (wrap64 (x8_3 + 1)) (wrap64 (x8_3 + 1)) (x109000_3 ++ [t110]) x109001_7) else (none)) else (some (([] : List Int), (⟨#[]⟩ : ByteArray), 130))) = some (r1, r2, r3) := H
         have A37 := Aside0.mk A370
         clear A370
         by_cases c38 : t111 = true
         rotate_left
         · replace c38 := Bool.eq_false_iff.mpr c38
           subst c38
           rw [if_neg (show ¬ (false = true) by decide)] at H
           simp only [Option.some.injEq, Prod.mk.injEq] at H
           obtain ⟨rfl, rfl, rfl⟩ := H
           go_wp2_with (first | ((with_reducible refine gate_callee (f := 44) rfl ?_); refine goesL_ (some 64) rfl rfl Tryz.func44 (by kernel_rfl) rfl #[.string (a0.extract (x7_3 : Int).toNat (x8_3 : Int).toNat)] rfl gl ?_; (with_reducible refine (tithebarnref13_number.calls kj27 (a0.extract (x7_3 : Int).toNat (x8_3 : Int).toNat) t110 false _ A37.out).mono ?_); rintro e w' ⟨rfl, ⟨nd, rfl⟩⟩; refine ⟨_, rfl, ?_⟩; (try (rw [drewN_self wc]; generalize hq_ : World.drewN wc _ = wc; have n0_ : Aside0 (Kd.R (Kd.int .i64) 3 wc w.heap.size (fun _ => True) u109000 x109000_3) := ⟨by rw [← hq_]; exact (pR HO_109000.out)⟩; have n1_ : Aside0 (wc.heap[gb107]? = some (.cells #[.slice none 0 0, .string x108001_3] 30 (0, 0))) := ⟨by rw [← hq_]; exact tk⟩; have n2_ : Aside0 (wc.heap[gb108]? = some (.cells #[u109000, .string x109001_7] 30 (0, 0))) := ⟨by rw [← hq_]; exact tk⟩; have n3_ : Aside0 (Below w.heap.size w wc) := ⟨by rw [← hq_]; exact tb⟩; clear HO_109000 BK107 BK108 HB hq_; have HO_109000 := n0_; have BK107 := n1_; have BK108 := n2_; have HB := n3_; clear n0_ n1_ n2_ n3_)); have hnb45 := NB107_108.out; have hnc45 := NB108_107.out; have hcz46_0 : wc.cell? ⟨gb107, 0, none⟩ = some (.slice none 0 0) := (blk_cell BK107.out 0).trans rfl; have hcz46_1 : wc.cell? ⟨gb107, 1, none⟩ = some (.string x108001_3) := (blk_cell BK107.out 1).trans rfl; have hfz46_0 := blk_frozen BK107.out 0; have hfz46_1 := blk_frozen BK107.out 1))
           refine bodyPost_ret (results_ct rfl _ _ gb107 30 #[.slice none 0 0, .string (⟨#[]⟩ : ByteArray)] (0, 0) _ rfl (by (with_reducible repeat (first | refine blk_drewN ?_ _ | refine blk_drew ?_ | refine blk_alloc ?_ _)); refine blk_put (cs := #[.slice none 0 0, .string x108001_3]) ?_ 1 _ rfl; (with_reducible repeat (first | refine blk_drewN ?_ _ | refine blk_drew ?_ | refine blk_alloc ?_ _)); refine blk_put (cs := #[.slice none 0 0, .string x108001_3]) ?_ 0 _ rfl; (with_reducible repeat (first | refine blk_drewN ?_ _ | refine blk_drew ?_ | refine blk_alloc ?_ _)); exact BK107.out) Tryz.underlying30 rfl (by kernel_rfl)) rfl ?_
           exact ⟨_, by first | rfl | (simp [errW_none, errW_some] <;> rfl) | (simp [*, errW_none, errW_some] <;> rfl), by first | exact Kd.R_nil _ _ _ _ _ | exact Kd.N_nil _ _ _ _ _ | exact Kd.V_nil _ _ _ _ _ | exact Kd.Q_nil _ _ _ _ _ | exact Kd.S_nil _ _ _ _ _, tb⟩
         subst c38
         rw [if_pos rfl] at H
         by_cases c39 : x109000_3.length < 17592186044416
         rotate_left
         · rw [if_neg c39] at H
           exact absurd H (by simp)
         rw [if_pos c39] at H
         have LMc39 := Aside0.mk c39
         clear c39
         obtain ⟨y112, hy112⟩ : ∃ y_ : List Int, y_ = (x109000_3 ++ [t110]) := ⟨_, rfl⟩
         replace H : (tithebarnref13_Parse.l1 kj27 a0 x4_1 (wrap64 (x8_3 + 1)) (wrap64 (x8_3 + 1)) y112 x109001_7) = some (r1, r2, r3) := by subst hy112; first | (with_reducible exact H) | exact H
         have Ny112 := Aside0.mk hy112
         clear hy112
         have H' := Aside0.mk H
         clear H
         go_wp2_with (first | ((with_reducible refine gate_callee (f := 44) rfl ?_); refine goesL_ (some 64) rfl rfl Tryz.func44 (by kernel_rfl) rfl #[.string (a0.extract (x7_3 : Int).toNat (x8_3 : Int).toNat)] rfl gl ?_; (with_reducible refine (tithebarnref13_number.calls kj27 (a0.extract (x7_3 : Int).toNat (x8_3 : Int).toNat) t110 true _ A37.out).mono ?_); rintro e w' ⟨rfl, ⟨nd, rfl⟩⟩; refine ⟨_, rfl, ?_⟩; (try (rw [drewN_self wc]; generalize hq_ : World.drewN wc _ = wc; have n0_ : Aside0 (Kd.R (Kd.int .i64) 3 wc w.heap.size (fun _ => True) u109000 x109000_3) := ⟨by rw [← hq_]; exact (pR HO_109000.out)⟩; have n1_ : Aside0 (wc.heap[gb107]? = some (.cells #[.slice none 0 0, .string x108001_3] 30 (0, 0))) := ⟨by rw [← hq_]; exact tk⟩; have n2_ : Aside0 (wc.heap[gb108]? = some (.cells #[u109000, .string x109001_7] 30 (0, 0))) := ⟨by rw [← hq_]; exact tk⟩; have n3_ : Aside0 (Below w.heap.size w wc) := ⟨by rw [← hq_]; exact tb⟩; clear HO_109000 BK107 BK108 HB hq_; have HO_109000 := n0_; have BK107 := n1_; have BK108 := n2_; have HB := n3_; clear n0_ n1_ n2_ n3_)); have hnb40 := NB108_107.out; have hnc40 := NB107_108.out; have hcz41_0 : wc.cell? ⟨gb108, 0, none⟩ = some (u109000) := (blk_cell BK108.out 0).trans rfl; have hcz41_1 : wc.cell? ⟨gb108, 1, none⟩ = some (.string x109001_7) := (blk_cell BK108.out 1).trans rfl; have hfz41_0 := blk_frozen BK108.out 0; have hfz41_1 := blk_frozen BK108.out 1) | ((with_reducible refine gate_builtin (b := .append) (xs := #[.tmp 71, .tmp 73]) rfl ?_); at_builtin; refine Kd.R_append (Kd.int .i64) (w0 := w) w.heap.size rfl (.tmp 71) (.tmp 73) 22 3 (.int .i64 0) 8 rfl Tryz.underlying22 info3 rfl (by decide) (by omega) u109000 x109000_3 t110 [.int .i64 t110] (fun _ => True) (fun _ => False) rfl rfl ?aP (fun _ hk => hk.elim) ?aF ?aO ?aB ?aS ?aL ?_; (case aP => exact rfl); (case aB => exact tb); (case aF => exact (fun _ _ => trivial)); (case aO => exact (pR HO_109000.out)); (case aS => exact (below_size tb)); (case aL => have := LMc39.out; omega); intro v113 w42 ho hb hg hat; rw [← Ny112.out] at ho; replace BK107 := Aside0.mk (blk_grown (g := gb107) (o := .cells #[.slice none 0 0, .string x108001_3] 30 (0, 0)) tk hg (Kd.R_ne HO_109000.out BK107.out (by decide))); replace BK108 := Aside0.mk (blk_grown (g := gb108) (o := .cells #[u109000, .string x109001_7] 30 (0, 0)) tk hg (Kd.R_ne HO_109000.out BK108.out (by decide))); replace HB := Aside0.mk (hb); have HO114 := Aside0.mk (ho); clear HO_109000; clear ho hb hg hat; obtain ⟨Ao43, co43, eo43⟩ := Kd.R_slice HO114.out; subst eo43; have hcz44_0 : w42.cell? ⟨gb108, 0, none⟩ = some (u109000) := (blk_cell BK108.out 0).trans rfl; have hcz44_1 : w42.cell? ⟨gb108, 1, none⟩ = some (.string x109001_7) := (blk_cell BK108.out 1).trans rfl; have hfz44_0 := blk_frozen BK108.out 0; have hfz44_1 := blk_frozen BK108.out 1))
         go_roundg kj27
         case measure => have := HK1.out; have := HJ7.out; have := HK3.out; have := HJ27.out; omega
         case rel => exact ⟨(wrap64 (x8_3 + 1)), (wrap64 (x8_3 + 1)), (x108001_3), (y112), (.slice Ao43 y112.length co43), rf, rf, H', ⟨by have := HK1.out; have := HJ7.out; have := HK3.out; have := HJ27.out; omega⟩, ⟨by (with_reducible repeat (first | apply Kd.R_alloc | apply Kd.R_drewN | apply Kd.R_drew)); exact Kd.R_mono (Kd.R_far (p := ⟨gb108, 0, none⟩) (Kd.R_types HO114.out BK108.out (by decide)) (fun _ hk => hk.2) (.slice Ao43 y112.length co43)) (fun _ hk => trivial)⟩, ⟨by (with_reducible repeat (first | refine blk_drewN ?_ _ | refine blk_drew ?_ | refine blk_alloc ?_ _)); refine blk_far ?_ NB107_108.out _; (with_reducible repeat (first | refine blk_drewN ?_ _ | refine blk_drew ?_ | refine blk_alloc ?_ _)); exact BK107.out⟩, ⟨by (with_reducible repeat (first | refine blk_drewN ?_ _ | refine blk_drew ?_ | refine blk_alloc ?_ _)); refine blk_put (cs := #[u109000, .string x109001_7]) ?_ 0 _ rfl; (with_reducible repeat (first | refine blk_drewN ?_ _ | refine blk_drew ?_ | refine blk_alloc ?_ _)); exact BK108.out⟩, ⟨tb⟩⟩
end Go.Proofs.YtnbmdecehlljcaaGreatDoor.PRq
