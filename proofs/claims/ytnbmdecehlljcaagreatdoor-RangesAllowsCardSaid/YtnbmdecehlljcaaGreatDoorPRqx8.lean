-- Laid by a program of this session (wip/tools/pgiven.py) out of the seat's translation. Lean checks it.
import Derived.Test.YtnbmdecehlljcaaGreatDoorPRqx0
import Derived.Test.YtnbmdecehlljcaaGreatDoorPRqx5
namespace Go.Proofs.YtnbmdecehlljcaaGreatDoor.PRq
open Go.RowKit Go.Proofs.YtnbmdecehlljcaaGreatDoorW.PrintWords Go.Proofs.YtnbmdecehlljcaaGreatDoorW.PrintLast Go.Proofs.YtnbmdecehlljcaaGreatDoorW.PrintMore
attribute [local go_sem] max2_int min2_int max_two min_two max_three min_three max_four min_four   -- for this text's walks alone
set_option linter.unusedVariables false
set_option linter.unusedSimpArgs false

attribute [local go_sem] isSome_setCellV
/-! ### tithebarnref14_May: function 53 -/
mutual
def tithebarnref14_May.l0 : Nat → List (List (S59)) → Int → Option (Bool)
 | 0, _, _ => none
 | k + 1, x0, x3 => if x3 < (x0.length : Int) then (if 0 ≤ x3 then (if ((rd_L4 x0 x3).length : Int) < 1 then (tithebarnref14_May.j1 k x0 x3 true) else (tithebarnref14_May.j1 k x0 x3 (decide (((rd_L4 x0 x3).length : Int) > 16)))) else (none)) else (some (decide ((x0.length : Int) ≤ 16)))
def tithebarnref14_May.j1 : Nat → List (List (S59)) → Int → Bool → Option (Bool)
 | 0, _, _, _ => none
 | k + 1, x0, x3, x27 => if x27 = true then (some false) else (tithebarnref14_May.l1 k x0 x3 0)
def tithebarnref14_May.l1 : Nat → List (List (S59)) → Int → Int → Option (Bool)
 | 0, _, _, _ => none
 | k + 1, x0, x3, x4 => if 0 ≤ x3 then (if x3 < (x0.length : Int) then (if x4 < ((rd_L4 x0 x3).length : Int) then (if 0 ≤ x4 then ((tithebarnref13_Parse.f k ((rd_T59 (rd_L4 x0 x3) x4).f1)).bind fun bt134 => (if ((rd_T59 (rd_L4 x0 x3) x4).f0) > 7 then (some false) else (if ((rd_T59 (rd_L4 x0 x3) x4).f0) = 0 then (if ((rd_T59 (rd_L4 x0 x3) x4).f1).toList = ([] : List UInt8) then (tithebarnref14_May.l1 k x0 x3 (wrap64 (x4 + 1))) else (some false)) else (if bt134.2.2 = 0 then (tithebarnref14_May.l1 k x0 x3 (wrap64 (x4 + 1))) else (some false))))) else (none)) else (tithebarnref14_May.l0 k x0 (wrap64 (x3 + 1)))) else (none)) else (none)
end
def tithebarnref14_May.f (k : Nat) (l0 : List (List (S59))) : Option (Bool) := tithebarnref14_May.l0 k l0 0
theorem tithebarnref14_May.mono_l : ∀ k, (∀ y0 y1, LeO (tithebarnref14_May.l0 k y0 y1) (tithebarnref14_May.l0 (k + 1) y0 y1)) ∧ (∀ y0 y1 y2, LeO (tithebarnref14_May.j1 k y0 y1 y2) (tithebarnref14_May.j1 (k + 1) y0 y1 y2)) ∧ (∀ y0 y1 y2, LeO (tithebarnref14_May.l1 k y0 y1 y2) (tithebarnref14_May.l1 (k + 1) y0 y1 y2))
 | 0 => ⟨fun _ _ r h => by simp [tithebarnref14_May.l0] at h, fun _ _ _ r h => by simp [tithebarnref14_May.j1] at h, fun _ _ _ r h => by simp [tithebarnref14_May.l1] at h⟩
 | k + 1 => by
  obtain ⟨ih0, ih1, ih2⟩ := tithebarnref14_May.mono_l k
  refine ⟨?_, ?_, ?_⟩
  · intro y0 y1
    unfold tithebarnref14_May.l0
    repeat' first
    | (with_reducible exact ih0 _ _)
    | (with_reducible exact ih1 _ _ _)
    | (with_reducible exact ih2 _ _ _)
    | (with_reducible exact tithebarnref13_Parse.mono _ _)
    | (with_reducible exact LeO.refl _)
    | (with_reducible exact LeO.none _)
    | (with_reducible refine LeO.ite ?_ ?_)
    | (with_reducible refine LeO.bind ?_ (fun _ => ?_))
    | exact ih0 _ _
    | exact ih1 _ _ _
    | exact ih2 _ _ _
    | exact tithebarnref13_Parse.mono _ _
    | exact LeO.none _
    | refine LeO.ite ?_ ?_
    | refine LeO.bind ?_ (fun _ => ?_)
  · intro y0 y1 y2
    unfold tithebarnref14_May.j1
    repeat' first
    | (with_reducible exact ih0 _ _)
    | (with_reducible exact ih1 _ _ _)
    | (with_reducible exact ih2 _ _ _)
    | (with_reducible exact tithebarnref13_Parse.mono _ _)
    | (with_reducible exact LeO.refl _)
    | (with_reducible exact LeO.none _)
    | (with_reducible refine LeO.ite ?_ ?_)
    | (with_reducible refine LeO.bind ?_ (fun _ => ?_))
    | exact ih0 _ _
    | exact ih1 _ _ _
    | exact ih2 _ _ _
    | exact tithebarnref13_Parse.mono _ _
    | exact LeO.none _
    | refine LeO.ite ?_ ?_
    | refine LeO.bind ?_ (fun _ => ?_)
  · intro y0 y1 y2
    unfold tithebarnref14_May.l1
    repeat' first
    | (with_reducible exact ih0 _ _)
    | (with_reducible exact ih1 _ _ _)
    | (with_reducible exact ih2 _ _ _)
    | (with_reducible exact tithebarnref13_Parse.mono _ _)
    | (with_reducible exact LeO.refl _)
    | (with_reducible exact LeO.none _)
    | (with_reducible refine LeO.ite ?_ ?_)
    | (with_reducible refine LeO.bind ?_ (fun _ => ?_))
    | exact ih0 _ _
    | exact ih1 _ _ _
    | exact ih2 _ _ _
    | exact tithebarnref13_Parse.mono _ _
    | exact LeO.none _
    | refine LeO.ite ?_ ?_
    | refine LeO.bind ?_ (fun _ => ?_)
theorem tithebarnref14_May.mono : ∀ a0 k, LeO (tithebarnref14_May.f k a0) (tithebarnref14_May.f (k + 1) a0) := by
 intro a0 k
 obtain ⟨ih0, ih1, ih2⟩ := tithebarnref14_May.mono_l k
 unfold tithebarnref14_May.f
 repeat' first
  | (with_reducible exact ih0 _ _)
  | (with_reducible exact ih1 _ _ _)
  | (with_reducible exact ih2 _ _ _)
  | (with_reducible exact tithebarnref13_Parse.mono _ _)
  | (with_reducible exact LeO.refl _)
  | (with_reducible exact LeO.none _)
  | (with_reducible refine LeO.ite ?_ ?_)
  | (with_reducible refine LeO.bind ?_ (fun _ => ?_))
  | exact ih0 _ _
  | exact ih1 _ _ _
  | exact ih2 _ _ _
  | exact tithebarnref13_Parse.mono _ _
  | exact LeO.none _
  | refine LeO.ite ?_ ?_
  | refine LeO.bind ?_ (fun _ => ?_)
set_option maxHeartbeats 8000000 in
set_option maxRecDepth 100000 in
theorem tithebarnref14_May.calls (k : Nat) (A0 : Option Addr) (c0 : Nat) (l0 : List (List (S59))) (r : Bool) (w : World) (hr0 : Kd.C (Kd.slice 59 k59) w A0 l0.length l0) (hc0 : l0.length ≤ c0) (h : tithebarnref14_May.f k l0 = some r) :
 Calls Tryz.prog 53 #[.slice A0 l0.length c0] w fun e w' => e = .returned (.bool r) ∧ Below w.heap.size w w' := by
 have hu59 := Tryz.underlying59
 have hu30 := Tryz.underlying30
 have HR0 := Aside0.mk hr0
 have HC0 := Aside0.mk hc0
 clear hr0 hc0
 have HB := Aside0.mk (Below.refl w.heap.size w)
 have H : (tithebarnref14_May.l0 k l0 0) = some r := h
 clear h
 have H' := Aside0.mk H
 clear H
 go_enter Tryz.func53, Tryz.ntmps53
 go_wp2
 go_loopg [3] k (fun kq v3 w' => ∃ (x3_1 : Int), v3 = .int .i64 x3_1 ∧ Aside0 (tithebarnref14_May.l0 kq l0 x3_1 = some r) ∧ Aside0 (kq ≤ k) ∧ Aside0 (Below w.heap.size w w'))
 case atStart => exact ⟨(0), rf, H', ⟨Nat.le_refl _⟩, ⟨tb⟩⟩
 case round =>
  clear H'
  obtain ⟨x3_1, rfl, HA, HK1, HB⟩ := hrel
  cases gk with
  | zero => exact absurd HA.out (by simp [tithebarnref14_May.l0])
  | succ k1 =>
   have H := HA.out
   clear HA
   simp only [tithebarnref14_May.l0] at H
   by_cases c2 : x3_1 < (l0.length : Int)
   rotate_left
   · rw [if_neg c2] at H
     have c2b0 : decide (x3_1 < (l0.length : Int)) = false := decide_eq_false c2
     clear c2
     obtain rfl := Option.some.inj H
     go_wp2
     go_ret
     exact ⟨by first | rfl | (simp [errW_none, errW_some] <;> rfl) | (simp [*, errW_none, errW_some] <;> rfl), tb⟩

   rw [if_pos c2] at H
   have c2b0 : decide (x3_1 < (l0.length : Int)) = true := decide_eq_true c2
   clear c2
   have HC3 := Aside0.mk H
   clear H
   go_upto_region 4 with (fail)
   go_cut [27] (fun v27 wc => ∃ (kq : Nat) (x27_2 : Bool), v27 = .bool x27_2 ∧ Aside0 (tithebarnref14_May.j1 kq l0 x3_1 x27_2 = some r) ∧ Aside0 (kq ≤ k1) ∧ Aside0 (Below w.heap.size w wc))
   case first =>
    have H := HC3.out
    clear HC3
    by_cases c4 : 0 ≤ x3_1
    rotate_left
    · rw [if_neg c4] at H
      exact absurd H (by simp)
    rw [if_pos c4] at H
    have c4b0 : decide (0 ≤ x3_1) = true := decide_eq_true c4
    clear c4
    (first | rw [c4b0] | (simp only [i64_w, i32_w]; rw [c4b0]) | skip)
    by_cases c5 : ((rd_L4 l0 x3_1).length : Int) < 1
    · rw [if_pos c5] at H
      have c5b0 : decide (((rd_L4 l0 x3_1).length : Int) < 1) = true := decide_eq_true c5
      have c5b1 : decide ((rd_L4 l0 x3_1).length < 1) = true := decide_eq_true (by omega)
      clear c5
      have H' := Aside0.mk H
      clear H
      have p128 : 0 ≤ (x3_1 : Int) := da
      have q128 : x3_1 < (l0.length : Int) := da
      obtain ⟨ad128, A128_0, c128_0, e128, hx128_0, hl128_0, hi128_0⟩ := at_L4 HR0.out x3_1 p128 q128
      cases e128
      replace hx128_0 := (HB.out.cell (World.block_lt_of_cell? w _ hx128_0)).trans hx128_0
      have HR128_0 := Aside0.mk hi128_0
      have HC128_0 := Aside0.mk hl128_0
      clear hi128_0 hl128_0
      replace p128 := eq_true p128
      replace q128 := eq_true q128
      go_wp2
      go_meet
      case rel => exact ⟨_, (true), rf, H', ⟨by have := HK1.out; first | omega | exact Nat.le_refl _⟩, ⟨tb⟩⟩
    rw [if_neg c5] at H
    have c5b0 : decide (((rd_L4 l0 x3_1).length : Int) < 1) = false := decide_eq_false c5
    have c5b1 : decide ((rd_L4 l0 x3_1).length < 1) = false := decide_eq_false (by omega)
    clear c5
    have H' := Aside0.mk H
    clear H
    have p128 : 0 ≤ (x3_1 : Int) := da
    have q128 : x3_1 < (l0.length : Int) := da
    obtain ⟨ad128, A128_0, c128_0, e128, hx128_0, hl128_0, hi128_0⟩ := at_L4 HR0.out x3_1 p128 q128
    cases e128
    replace hx128_0 := (HB.out.cell (World.block_lt_of_cell? w _ hx128_0)).trans hx128_0
    have HR128_0 := Aside0.mk hi128_0
    have HC128_0 := Aside0.mk hl128_0
    clear hi128_0 hl128_0
    replace p128 := eq_true p128
    replace q128 := eq_true q128
    have p129 : 0 ≤ (x3_1 : Int) := da
    have q129 : x3_1 < (l0.length : Int) := da
    obtain ⟨ad129, A129_0, c129_0, e129, hx129_0, hl129_0, hi129_0⟩ := at_L4 HR0.out x3_1 p129 q129
    obtain rfl : ad128 = ad129 := (by injection e129)
    replace hx129_0 := (HB.out.cell (World.block_lt_of_cell? w _ hx129_0)).trans hx129_0
    have HR129_0 := Aside0.mk hi129_0
    have HC129_0 := Aside0.mk hl129_0
    clear hi129_0 hl129_0
    replace p129 := eq_true p129
    replace q129 := eq_true q129
    have ea_ := Option.some.inj (hx128_0.symm.trans hx129_0)
    injection ea_ with ea_ en_ ec_
    subst ea_
    subst ec_
    clear en_
    go_wp2
    go_meet
    case rel => exact ⟨_, (decide (((rd_L4 l0 x3_1).length : Int) > 16)), rf, H', ⟨by have := HK1.out; first | omega | exact Nat.le_refl _⟩, ⟨tb⟩⟩
   case rest =>
    clear HC3
    try clear c1
    try clear p1
    try clear q1
    try clear hx1
    try clear c2
    try clear c2b0
    try clear p2
    try clear c4
    try clear c4b0
    try clear c5
    try clear c5b0
    try clear c5b1
    try clear hx128_0
    try clear hx129_0
    try clear p128
    try clear p129
    try clear q128
    try clear q129
    obtain ⟨kq, x27_2, rfl, HA, HJ2, HB⟩ := hcut
    cases kq with
    | zero => exact absurd HA.out (by simp [tithebarnref14_May.j1])
    | succ kj2 =>
     have H := HA.out
     clear HA
     simp only [tithebarnref14_May.j1] at H
     by_cases c6 : x27_2 = true
     · subst c6
       rw [if_pos rfl] at H
       obtain rfl := Option.some.inj H
       go_wp2
       go_ret
       exact ⟨by first | rfl | (simp [errW_none, errW_some] <;> rfl) | (simp [*, errW_none, errW_some] <;> rfl), tb⟩
     replace c6 := Bool.eq_false_iff.mpr c6
     subst c6
     rw [if_neg (show ¬ (false = true) by decide)] at H
     have H' := Aside0.mk H
     clear H
     go_wp2
     go_loopg [4] kj2 (fun kq v4 w' => ∃ (x4_3 : Int), v4 = .int .i64 x4_3 ∧ Aside0 (tithebarnref14_May.l1 kq l0 x3_1 x4_3 = some r) ∧ Aside0 (kq ≤ kj2) ∧ Aside0 (Below w.heap.size w w'))
     case atStart => exact ⟨(0), rf, H', ⟨Nat.le_refl _⟩, ⟨tb⟩⟩
     case round =>
      clear H'
      try clear c1
      try clear p1
      try clear q1
      try clear hx1
      try clear c2
      try clear c2b0
      try clear p2
      try clear c4
      try clear c4b0
      try clear c5
      try clear c5b0
      try clear c5b1
      try clear c6
      try clear hx128_0
      try clear hx129_0
      try clear p1
      try clear p128
      try clear p129
      try clear p2
      try clear q1
      try clear q128
      try clear q129
      obtain ⟨x4_3, rfl, HA, HK3, HB⟩ := hrel
      cases gk with
      | zero => exact absurd HA.out (by simp [tithebarnref14_May.l1])
      | succ k3 =>
       have H := HA.out
       clear HA
       simp only [tithebarnref14_May.l1] at H
       by_cases c7 : 0 ≤ x3_1
       rotate_left
       · rw [if_neg c7] at H
         exact absurd H (by simp)
       rw [if_pos c7] at H
       have c7b0 : decide (0 ≤ x3_1) = true := decide_eq_true c7
       clear c7
       by_cases c8 : x3_1 < (l0.length : Int)
       rotate_left
       · rw [if_neg c8] at H
         exact absurd H (by simp)
       rw [if_pos c8] at H
       have c8b0 : decide (x3_1 < (l0.length : Int)) = true := decide_eq_true c8
       clear c8
       by_cases c9 : x4_3 < ((rd_L4 l0 x3_1).length : Int)
       rotate_left
       · rw [if_neg c9] at H
         have c9b0 : decide (x4_3 < ((rd_L4 l0 x3_1).length : Int)) = false := decide_eq_false c9
         clear c9
         have H' := Aside0.mk H
         clear H
         have p130 : 0 ≤ (x3_1 : Int) := da
         have q130 : x3_1 < (l0.length : Int) := da
         obtain ⟨ad130, A130_0, c130_0, e130, hx130_0, hl130_0, hi130_0⟩ := at_L4 HR0.out x3_1 p130 q130
         cases e130
         replace hx130_0 := (HB.out.cell (World.block_lt_of_cell? w _ hx130_0)).trans hx130_0
         have HR130_0 := Aside0.mk hi130_0
         have HC130_0 := Aside0.mk hl130_0
         clear hi130_0 hl130_0
         replace p130 := eq_true p130
         replace q130 := eq_true q130
         go_wp2
         go_roundg k3
         case measure => have := HK1.out; have := HJ2.out; have := HK3.out; omega
         case rel => exact ⟨(wrap64 (x3_1 + 1)), rf, H', ⟨by have := HK1.out; have := HJ2.out; have := HK3.out; omega⟩, ⟨tb⟩⟩
       rw [if_pos c9] at H
       have c9b0 : decide (x4_3 < ((rd_L4 l0 x3_1).length : Int)) = true := decide_eq_true c9
       clear c9
       by_cases c10 : 0 ≤ x4_3
       rotate_left
       · rw [if_neg c10] at H
         exact absurd H (by simp)
       rw [if_pos c10] at H
       have c10b0 : decide (0 ≤ x4_3) = true := decide_eq_true c10
       clear c10
       replace H := Option.bind_eq_some_iff.mp H
       obtain ⟨⟨t134, t137, t138⟩, A110, H⟩ := H
       replace H : (if ((rd_T59 (rd_L4 l0 x3_1) x4_3).f0) > 7 then (some false) else (if ((rd_T59 (rd_L4 l0 x3_1) x4_3).f0) = 0 then (if ((rd_T59 (rd_L4 l0 x3_1) x4_3).f1).toList = ([] : List UInt8) then (tithebarnref14_May.l1 k3 l0 x3_1 (wrap64 (x4_3 + 1))) else (some false)) else (if t138 = 0 then (tithebarnref14_May.l1 k3 l0 x3_1 (wrap64 (x4_3 + 1))) else (some false)))) = some r := H
       have A11 := Aside0.mk A110
       clear A110
       by_cases c12 : ((rd_T59 (rd_L4 l0 x3_1) x4_3).f0) > 7
       · rw [if_pos c12] at H
         have c12b0 : decide (7 < ((rd_T59 (rd_L4 l0 x3_1) x4_3).f0)) = true := decide_eq_true c12
         clear c12
         obtain rfl := Option.some.inj H
         have p130 : 0 ≤ (x3_1 : Int) := da
         have q130 : x3_1 < (l0.length : Int) := da
         obtain ⟨ad130, A130_0, c130_0, e130, hx130_0, hl130_0, hi130_0⟩ := at_L4 HR0.out x3_1 p130 q130
         cases e130
         replace hx130_0 := (HB.out.cell (World.block_lt_of_cell? w _ hx130_0)).trans hx130_0
         have HR130_0 := Aside0.mk hi130_0
         have HC130_0 := Aside0.mk hl130_0
         clear hi130_0 hl130_0
         replace p130 := eq_true p130
         replace q130 := eq_true q130
         have p131 : 0 ≤ (x3_1 : Int) := da
         have q131 : x3_1 < (l0.length : Int) := da
         obtain ⟨ad131, A131_0, c131_0, e131, hx131_0, hl131_0, hi131_0⟩ := at_L4 HR0.out x3_1 p131 q131
         obtain rfl : ad130 = ad131 := (by injection e131)
         replace hx131_0 := (HB.out.cell (World.block_lt_of_cell? w _ hx131_0)).trans hx131_0
         have HR131_0 := Aside0.mk hi131_0
         have HC131_0 := Aside0.mk hl131_0
         clear hi131_0 hl131_0
         replace p131 := eq_true p131
         replace q131 := eq_true q131
         have ea_ := Option.some.inj (hx130_0.symm.trans hx131_0)
         injection ea_ with ea_ en_ ec_
         subst ea_
         subst ec_
         clear en_
         have p132 : 0 ≤ (x4_3 : Int) := da
         have q132 : x4_3 < ((rd_L4 l0 x3_1).length : Int) := da
         obtain ⟨ad132, e132, hx132_0, hx132_1⟩ := at_T59 HR131_0.out x4_3 p132 q132
         cases e132
         replace hx132_0 := (HB.out.cell (World.block_lt_of_cell? w _ hx132_0)).trans hx132_0
         replace hx132_1 := (HB.out.cell (World.block_lt_of_cell? w _ hx132_1)).trans hx132_1
         replace p132 := eq_true p132
         replace q132 := eq_true q132
         go_wp2_with (first | ((with_reducible refine gate_dst (N := 5) rfl ?_); (try (refine gate_guard (by rfl) ?_; dsimp only)); refine box_event ?hg (N := 5) ?hd (cs := #[.int .u8 0, .string (⟨#[]⟩ : ByteArray)]) (t := 59) ?hr ?_; (case hd => rfl); (case hg => rfl); (case hr => first | (go_simp; done) | (go_simp; rfl)); intro gb133 hg w13 hbox hb; have BK133 := Aside0.mk (hbox); have GW133 := Aside0.mk ((by rw [hg]; exact (below_size tb) : w.heap.size ≤ gb133)); have GE133 := Aside0.mk ((by rw [hg]; exact (below_size tb) : w.heap.size ≤ gb133)); replace HB := Aside0.mk (below_step tb hb); clear hb hbox hg; have hcz14_0 : w13.cell? ⟨gb133, 0, none⟩ = some (.int .u8 0) := (blk_cell BK133.out 0).trans rfl; have hcz14_1 : w13.cell? ⟨gb133, 1, none⟩ = some (.string (⟨#[]⟩ : ByteArray)) := (blk_cell BK133.out 1).trans rfl; have hfz14_0 := blk_frozen BK133.out 0; have hfz14_1 := blk_frozen BK133.out 1) | ((with_reducible refine gate_callee (f := 15) rfl ?_); refine goesL_ (some 47) rfl rfl Tryz.func15 (by kernel_rfl) rfl #[.string ((rd_T59 (rd_L4 l0 x3_1) x4_3).f1)] rfl gl ?_; (with_reducible refine (tithebarnref13_Parse.calls k3 ((rd_T59 (rd_L4 l0 x3_1) x4_3).f1) t134 t137 t138 _ A11.out).mono ?_); rintro e w15 ⟨v135, rfl, ho0, hb⟩; refine ⟨_, rfl, ?_⟩; have HO136 := Aside0.mk (Kd.R_lower ho0 (below_size tb)); replace BK133 := Aside0.mk (blk_below (g := gb133) (o := .cells #[.int .u8 ((rd_T59 (rd_L4 l0 x3_1) x4_3).f0), .string ((rd_T59 (rd_L4 l0 x3_1) x4_3).f1)] 59 (0, 0)) (by (with_reducible repeat (first | refine blk_drewN ?_ _ | refine blk_drew ?_ | refine blk_alloc ?_ _)); refine blk_put (cs := #[.int .u8 ((rd_T59 (rd_L4 l0 x3_1) x4_3).f0), .string (⟨#[]⟩ : ByteArray)]) ?_ 1 _ rfl; (with_reducible repeat (first | refine blk_drewN ?_ _ | refine blk_drew ?_ | refine blk_alloc ?_ _)); refine blk_put (cs := #[.int .u8 0, .string (⟨#[]⟩ : ByteArray)]) ?_ 0 _ rfl; (with_reducible repeat (first | refine blk_drewN ?_ _ | refine blk_drew ?_ | refine blk_alloc ?_ _)); exact BK133.out) hb); replace HB := Aside0.mk (below_step tb hb); (try clear hb); (try clear ho0)) | ((with_reducible refine gate_dst (N := 6) rfl ?_); (try (refine gate_guard (by rfl) ?_; dsimp only)); refine box_event ?hg (N := 6) ?hd (cs := #[.slice none 0 0, .string (⟨#[]⟩ : ByteArray)]) (t := 30) ?hr ?_; (case hd => rfl); (case hg => rfl); (case hr => first | (go_simp; done) | (go_simp; rfl)); intro gb139 hg w16 hbox hb; replace HO136 := bR HO136 hb; have BK139 := Aside0.mk (hbox); have GW139 := Aside0.mk ((by rw [hg]; exact (below_size tb) : w.heap.size ≤ gb139)); have GE139 := Aside0.mk ((by rw [hg]; exact (below_size tb) : w.heap.size ≤ gb139)); replace HB := Aside0.mk (below_step tb hb); have NB133_139 := Aside0.mk ((by rw [hg]; exact Nat.ne_of_lt (blk_lt (g := gb133) (o := .cells #[.int .u8 ((rd_T59 (rd_L4 l0 x3_1) x4_3).f0), .string ((rd_T59 (rd_L4 l0 x3_1) x4_3).f1)] 59 (0, 0)) tk) : gb133 ≠ gb139)); have NB139_133 := Aside0.mk ((by rw [hg]; exact Nat.ne_of_gt (blk_lt (g := gb133) (o := .cells #[.int .u8 ((rd_T59 (rd_L4 l0 x3_1) x4_3).f0), .string ((rd_T59 (rd_L4 l0 x3_1) x4_3).f1)] 59 (0, 0)) tk) : gb139 ≠ gb133)); replace BK133 := Aside0.mk (blk_below (g := gb133) (o := .cells #[.int .u8 ((rd_T59 (rd_L4 l0 x3_1) x4_3).f0), .string ((rd_T59 (rd_L4 l0 x3_1) x4_3).f1)] 59 (0, 0)) tk hb); clear hb hbox hg; obtain ⟨Ao17, co17, eo17⟩ := Kd.R_slice HO136.out; subst eo17; have hnb18 := NB139_133.out; have hnc18 := NB133_139.out; have hcz19_0 : w16.cell? ⟨gb139, 0, none⟩ = some (.slice none 0 0) := (blk_cell BK139.out 0).trans rfl; have hcz19_1 : w16.cell? ⟨gb139, 1, none⟩ = some (.string (⟨#[]⟩ : ByteArray)) := (blk_cell BK139.out 1).trans rfl; have hfz19_0 := blk_frozen BK139.out 0; have hfz19_1 := blk_frozen BK139.out 1; have hcz20_0 : w16.cell? ⟨gb133, 0, none⟩ = some (.int .u8 ((rd_T59 (rd_L4 l0 x3_1) x4_3).f0)) := (blk_cell BK133.out 0).trans rfl; have hcz20_1 : w16.cell? ⟨gb133, 1, none⟩ = some (.string ((rd_T59 (rd_L4 l0 x3_1) x4_3).f1)) := (blk_cell BK133.out 1).trans rfl; have hfz20_0 := blk_frozen BK133.out 0; have hfz20_1 := blk_frozen BK133.out 1))
         go_ret
         exact ⟨by first | rfl | (simp [errW_none, errW_some] <;> rfl) | (simp [*, errW_none, errW_some] <;> rfl), tb⟩
       rw [if_neg c12] at H
       have c12b0 : decide (7 < ((rd_T59 (rd_L4 l0 x3_1) x4_3).f0)) = false := decide_eq_false c12
       clear c12
       by_cases c21 : ((rd_T59 (rd_L4 l0 x3_1) x4_3).f0) = 0
       rotate_left
       · rw [if_neg c21] at H
         have c21b0 : (((rd_T59 (rd_L4 l0 x3_1) x4_3).f0) == 0) = false := beq_eq_false_iff_ne.mpr c21
         have c21b1 : (((rd_T59 (rd_L4 l0 x3_1) x4_3).f0) != 0) = true := bne_iff_ne.mpr c21
         by_cases c39 : t138 = 0
         rotate_left
         · rw [if_neg c39] at H
           have c39b0 : (t138 == 0) = false := beq_eq_false_iff_ne.mpr c39
           have c39b1 : (t138 != 0) = true := bne_iff_ne.mpr c39
           obtain rfl := Option.some.inj H
           have p130 : 0 ≤ (x3_1 : Int) := da
           have q130 : x3_1 < (l0.length : Int) := da
           obtain ⟨ad130, A130_0, c130_0, e130, hx130_0, hl130_0, hi130_0⟩ := at_L4 HR0.out x3_1 p130 q130
           cases e130
           replace hx130_0 := (HB.out.cell (World.block_lt_of_cell? w _ hx130_0)).trans hx130_0
           have HR130_0 := Aside0.mk hi130_0
           have HC130_0 := Aside0.mk hl130_0
           clear hi130_0 hl130_0
           replace p130 := eq_true p130
           replace q130 := eq_true q130
           have p131 : 0 ≤ (x3_1 : Int) := da
           have q131 : x3_1 < (l0.length : Int) := da
           obtain ⟨ad131, A131_0, c131_0, e131, hx131_0, hl131_0, hi131_0⟩ := at_L4 HR0.out x3_1 p131 q131
           obtain rfl : ad130 = ad131 := (by injection e131)
           replace hx131_0 := (HB.out.cell (World.block_lt_of_cell? w _ hx131_0)).trans hx131_0
           have HR131_0 := Aside0.mk hi131_0
           have HC131_0 := Aside0.mk hl131_0
           clear hi131_0 hl131_0
           replace p131 := eq_true p131
           replace q131 := eq_true q131
           have ea_ := Option.some.inj (hx130_0.symm.trans hx131_0)
           injection ea_ with ea_ en_ ec_
           subst ea_
           subst ec_
           clear en_
           have p132 : 0 ≤ (x4_3 : Int) := da
           have q132 : x4_3 < ((rd_L4 l0 x3_1).length : Int) := da
           obtain ⟨ad132, e132, hx132_0, hx132_1⟩ := at_T59 HR131_0.out x4_3 p132 q132
           cases e132
           replace hx132_0 := (HB.out.cell (World.block_lt_of_cell? w _ hx132_0)).trans hx132_0
           replace hx132_1 := (HB.out.cell (World.block_lt_of_cell? w _ hx132_1)).trans hx132_1
           replace p132 := eq_true p132
           replace q132 := eq_true q132
           go_wp2_with (first | ((with_reducible refine gate_dst (N := 5) rfl ?_); (try (refine gate_guard (by rfl) ?_; dsimp only)); refine box_event ?hg (N := 5) ?hd (cs := #[.int .u8 0, .string (⟨#[]⟩ : ByteArray)]) (t := 59) ?hr ?_; (case hd => rfl); (case hg => rfl); (case hr => first | (go_simp; done) | (go_simp; rfl)); intro gb133 hg w48 hbox hb; have BK133 := Aside0.mk (hbox); have GW133 := Aside0.mk ((by rw [hg]; exact (below_size tb) : w.heap.size ≤ gb133)); have GE133 := Aside0.mk ((by rw [hg]; exact (below_size tb) : w.heap.size ≤ gb133)); replace HB := Aside0.mk (below_step tb hb); clear hb hbox hg; have hcz49_0 : w48.cell? ⟨gb133, 0, none⟩ = some (.int .u8 0) := (blk_cell BK133.out 0).trans rfl; have hcz49_1 : w48.cell? ⟨gb133, 1, none⟩ = some (.string (⟨#[]⟩ : ByteArray)) := (blk_cell BK133.out 1).trans rfl; have hfz49_0 := blk_frozen BK133.out 0; have hfz49_1 := blk_frozen BK133.out 1) | ((with_reducible refine gate_callee (f := 15) rfl ?_); refine goesL_ (some 47) rfl rfl Tryz.func15 (by kernel_rfl) rfl #[.string ((rd_T59 (rd_L4 l0 x3_1) x4_3).f1)] rfl gl ?_; (with_reducible refine (tithebarnref13_Parse.calls k3 ((rd_T59 (rd_L4 l0 x3_1) x4_3).f1) t134 t137 t138 _ A11.out).mono ?_); rintro e w50 ⟨v135, rfl, ho0, hb⟩; refine ⟨_, rfl, ?_⟩; have HO136 := Aside0.mk (Kd.R_lower ho0 (below_size tb)); replace BK133 := Aside0.mk (blk_below (g := gb133) (o := .cells #[.int .u8 ((rd_T59 (rd_L4 l0 x3_1) x4_3).f0), .string ((rd_T59 (rd_L4 l0 x3_1) x4_3).f1)] 59 (0, 0)) (by (with_reducible repeat (first | refine blk_drewN ?_ _ | refine blk_drew ?_ | refine blk_alloc ?_ _)); refine blk_put (cs := #[.int .u8 ((rd_T59 (rd_L4 l0 x3_1) x4_3).f0), .string (⟨#[]⟩ : ByteArray)]) ?_ 1 _ rfl; (with_reducible repeat (first | refine blk_drewN ?_ _ | refine blk_drew ?_ | refine blk_alloc ?_ _)); refine blk_put (cs := #[.int .u8 0, .string (⟨#[]⟩ : ByteArray)]) ?_ 0 _ rfl; (with_reducible repeat (first | refine blk_drewN ?_ _ | refine blk_drew ?_ | refine blk_alloc ?_ _)); exact BK133.out) hb); replace HB := Aside0.mk (below_step tb hb); (try clear hb); (try clear ho0)) | ((with_reducible refine gate_dst (N := 6) rfl ?_); (try (refine gate_guard (by rfl) ?_; dsimp only)); refine box_event ?hg (N := 6) ?hd (cs := #[.slice none 0 0, .string (⟨#[]⟩ : ByteArray)]) (t := 30) ?hr ?_; (case hd => rfl); (case hg => rfl); (case hr => first | (go_simp; done) | (go_simp; rfl)); intro gb139 hg w51 hbox hb; replace HO136 := bR HO136 hb; have BK139 := Aside0.mk (hbox); have GW139 := Aside0.mk ((by rw [hg]; exact (below_size tb) : w.heap.size ≤ gb139)); have GE139 := Aside0.mk ((by rw [hg]; exact (below_size tb) : w.heap.size ≤ gb139)); replace HB := Aside0.mk (below_step tb hb); have NB133_139 := Aside0.mk ((by rw [hg]; exact Nat.ne_of_lt (blk_lt (g := gb133) (o := .cells #[.int .u8 ((rd_T59 (rd_L4 l0 x3_1) x4_3).f0), .string ((rd_T59 (rd_L4 l0 x3_1) x4_3).f1)] 59 (0, 0)) tk) : gb133 ≠ gb139)); have NB139_133 := Aside0.mk ((by rw [hg]; exact Nat.ne_of_gt (blk_lt (g := gb133) (o := .cells #[.int .u8 ((rd_T59 (rd_L4 l0 x3_1) x4_3).f0), .string ((rd_T59 (rd_L4 l0 x3_1) x4_3).f1)] 59 (0, 0)) tk) : gb139 ≠ gb133)); replace BK133 := Aside0.mk (blk_below (g := gb133) (o := .cells #[.int .u8 ((rd_T59 (rd_L4 l0 x3_1) x4_3).f0), .string ((rd_T59 (rd_L4 l0 x3_1) x4_3).f1)] 59 (0, 0)) tk hb); clear hb hbox hg; obtain ⟨Ao52, co52, eo52⟩ := Kd.R_slice HO136.out; subst eo52; have hnb53 := NB139_133.out; have hnc53 := NB133_139.out; have hcz54_0 : w51.cell? ⟨gb139, 0, none⟩ = some (.slice none 0 0) := (blk_cell BK139.out 0).trans rfl; have hcz54_1 : w51.cell? ⟨gb139, 1, none⟩ = some (.string (⟨#[]⟩ : ByteArray)) := (blk_cell BK139.out 1).trans rfl; have hfz54_0 := blk_frozen BK139.out 0; have hfz54_1 := blk_frozen BK139.out 1; have hcz55_0 : w51.cell? ⟨gb133, 0, none⟩ = some (.int .u8 ((rd_T59 (rd_L4 l0 x3_1) x4_3).f0)) := (blk_cell BK133.out 0).trans rfl; have hcz55_1 : w51.cell? ⟨gb133, 1, none⟩ = some (.string ((rd_T59 (rd_L4 l0 x3_1) x4_3).f1)) := (blk_cell BK133.out 1).trans rfl; have hfz55_0 := blk_frozen BK133.out 0; have hfz55_1 := blk_frozen BK133.out 1))
           go_ret
           exact ⟨by first | rfl | (simp [errW_none, errW_some] <;> rfl) | (simp [*, errW_none, errW_some] <;> rfl), tb⟩
         rw [if_pos c39] at H
         have c39b0 : (t138 == 0) = true := beq_iff_eq.mpr c39
         have c39b1 : (t138 != 0) = false := bne_eq_false_iff_eq.mpr c39
         clear c39
         have H' := Aside0.mk H
         clear H
         have p130 : 0 ≤ (x3_1 : Int) := da
         have q130 : x3_1 < (l0.length : Int) := da
         obtain ⟨ad130, A130_0, c130_0, e130, hx130_0, hl130_0, hi130_0⟩ := at_L4 HR0.out x3_1 p130 q130
         cases e130
         replace hx130_0 := (HB.out.cell (World.block_lt_of_cell? w _ hx130_0)).trans hx130_0
         have HR130_0 := Aside0.mk hi130_0
         have HC130_0 := Aside0.mk hl130_0
         clear hi130_0 hl130_0
         replace p130 := eq_true p130
         replace q130 := eq_true q130
         have p131 : 0 ≤ (x3_1 : Int) := da
         have q131 : x3_1 < (l0.length : Int) := da
         obtain ⟨ad131, A131_0, c131_0, e131, hx131_0, hl131_0, hi131_0⟩ := at_L4 HR0.out x3_1 p131 q131
         obtain rfl : ad130 = ad131 := (by injection e131)
         replace hx131_0 := (HB.out.cell (World.block_lt_of_cell? w _ hx131_0)).trans hx131_0
         have HR131_0 := Aside0.mk hi131_0
         have HC131_0 := Aside0.mk hl131_0
         clear hi131_0 hl131_0
         replace p131 := eq_true p131
         replace q131 := eq_true q131
         have ea_ := Option.some.inj (hx130_0.symm.trans hx131_0)
         injection ea_ with ea_ en_ ec_
         subst ea_
         subst ec_
         clear en_
         have p132 : 0 ≤ (x4_3 : Int) := da
         have q132 : x4_3 < ((rd_L4 l0 x3_1).length : Int) := da
         obtain ⟨ad132, e132, hx132_0, hx132_1⟩ := at_T59 HR131_0.out x4_3 p132 q132
         cases e132
         replace hx132_0 := (HB.out.cell (World.block_lt_of_cell? w _ hx132_0)).trans hx132_0
         replace hx132_1 := (HB.out.cell (World.block_lt_of_cell? w _ hx132_1)).trans hx132_1
         replace p132 := eq_true p132
         replace q132 := eq_true q132
         go_wp2_with (first | ((with_reducible refine gate_dst (N := 5) rfl ?_); (try (refine gate_guard (by rfl) ?_; dsimp only)); refine box_event ?hg (N := 5) ?hd (cs := #[.int .u8 0, .string (⟨#[]⟩ : ByteArray)]) (t := 59) ?hr ?_; (case hd => rfl); (case hg => rfl); (case hr => first | (go_simp; done) | (go_simp; rfl)); intro gb133 hg w40 hbox hb; have BK133 := Aside0.mk (hbox); have GW133 := Aside0.mk ((by rw [hg]; exact (below_size tb) : w.heap.size ≤ gb133)); have GE133 := Aside0.mk ((by rw [hg]; exact (below_size tb) : w.heap.size ≤ gb133)); replace HB := Aside0.mk (below_step tb hb); clear hb hbox hg; have hcz41_0 : w40.cell? ⟨gb133, 0, none⟩ = some (.int .u8 0) := (blk_cell BK133.out 0).trans rfl; have hcz41_1 : w40.cell? ⟨gb133, 1, none⟩ = some (.string (⟨#[]⟩ : ByteArray)) := (blk_cell BK133.out 1).trans rfl; have hfz41_0 := blk_frozen BK133.out 0; have hfz41_1 := blk_frozen BK133.out 1) | ((with_reducible refine gate_callee (f := 15) rfl ?_); refine goesL_ (some 47) rfl rfl Tryz.func15 (by kernel_rfl) rfl #[.string ((rd_T59 (rd_L4 l0 x3_1) x4_3).f1)] rfl gl ?_; (with_reducible refine (tithebarnref13_Parse.calls k3 ((rd_T59 (rd_L4 l0 x3_1) x4_3).f1) t134 t137 t138 _ A11.out).mono ?_); rintro e w42 ⟨v135, rfl, ho0, hb⟩; refine ⟨_, rfl, ?_⟩; have HO136 := Aside0.mk (Kd.R_lower ho0 (below_size tb)); replace BK133 := Aside0.mk (blk_below (g := gb133) (o := .cells #[.int .u8 ((rd_T59 (rd_L4 l0 x3_1) x4_3).f0), .string ((rd_T59 (rd_L4 l0 x3_1) x4_3).f1)] 59 (0, 0)) (by (with_reducible repeat (first | refine blk_drewN ?_ _ | refine blk_drew ?_ | refine blk_alloc ?_ _)); refine blk_put (cs := #[.int .u8 ((rd_T59 (rd_L4 l0 x3_1) x4_3).f0), .string (⟨#[]⟩ : ByteArray)]) ?_ 1 _ rfl; (with_reducible repeat (first | refine blk_drewN ?_ _ | refine blk_drew ?_ | refine blk_alloc ?_ _)); refine blk_put (cs := #[.int .u8 0, .string (⟨#[]⟩ : ByteArray)]) ?_ 0 _ rfl; (with_reducible repeat (first | refine blk_drewN ?_ _ | refine blk_drew ?_ | refine blk_alloc ?_ _)); exact BK133.out) hb); replace HB := Aside0.mk (below_step tb hb); (try clear hb); (try clear ho0)) | ((with_reducible refine gate_dst (N := 6) rfl ?_); (try (refine gate_guard (by rfl) ?_; dsimp only)); refine box_event ?hg (N := 6) ?hd (cs := #[.slice none 0 0, .string (⟨#[]⟩ : ByteArray)]) (t := 30) ?hr ?_; (case hd => rfl); (case hg => rfl); (case hr => first | (go_simp; done) | (go_simp; rfl)); intro gb139 hg w43 hbox hb; replace HO136 := bR HO136 hb; have BK139 := Aside0.mk (hbox); have GW139 := Aside0.mk ((by rw [hg]; exact (below_size tb) : w.heap.size ≤ gb139)); have GE139 := Aside0.mk ((by rw [hg]; exact (below_size tb) : w.heap.size ≤ gb139)); replace HB := Aside0.mk (below_step tb hb); have NB133_139 := Aside0.mk ((by rw [hg]; exact Nat.ne_of_lt (blk_lt (g := gb133) (o := .cells #[.int .u8 ((rd_T59 (rd_L4 l0 x3_1) x4_3).f0), .string ((rd_T59 (rd_L4 l0 x3_1) x4_3).f1)] 59 (0, 0)) tk) : gb133 ≠ gb139)); have NB139_133 := Aside0.mk ((by rw [hg]; exact Nat.ne_of_gt (blk_lt (g := gb133) (o := .cells #[.int .u8 ((rd_T59 (rd_L4 l0 x3_1) x4_3).f0), .string ((rd_T59 (rd_L4 l0 x3_1) x4_3).f1)] 59 (0, 0)) tk) : gb139 ≠ gb133)); replace BK133 := Aside0.mk (blk_below (g := gb133) (o := .cells #[.int .u8 ((rd_T59 (rd_L4 l0 x3_1) x4_3).f0), .string ((rd_T59 (rd_L4 l0 x3_1) x4_3).f1)] 59 (0, 0)) tk hb); clear hb hbox hg; obtain ⟨Ao44, co44, eo44⟩ := Kd.R_slice HO136.out; subst eo44; have hnb45 := NB139_133.out; have hnc45 := NB133_139.out; have hcz46_0 : w43.cell? ⟨gb139, 0, none⟩ = some (.slice none 0 0) := (blk_cell BK139.out 0).trans rfl; have hcz46_1 : w43.cell? ⟨gb139, 1, none⟩ = some (.string (⟨#[]⟩ : ByteArray)) := (blk_cell BK139.out 1).trans rfl; have hfz46_0 := blk_frozen BK139.out 0; have hfz46_1 := blk_frozen BK139.out 1; have hcz47_0 : w43.cell? ⟨gb133, 0, none⟩ = some (.int .u8 ((rd_T59 (rd_L4 l0 x3_1) x4_3).f0)) := (blk_cell BK133.out 0).trans rfl; have hcz47_1 : w43.cell? ⟨gb133, 1, none⟩ = some (.string ((rd_T59 (rd_L4 l0 x3_1) x4_3).f1)) := (blk_cell BK133.out 1).trans rfl; have hfz47_0 := blk_frozen BK133.out 0; have hfz47_1 := blk_frozen BK133.out 1))
         go_roundg k3
         case measure => have := HK1.out; have := HJ2.out; have := HK3.out; omega
         case rel => exact ⟨(wrap64 (x4_3 + 1)), rf, H', ⟨by have := HK1.out; have := HJ2.out; have := HK3.out; omega⟩, ⟨tb⟩⟩
       rw [if_pos c21] at H
       have c21b0 : (((rd_T59 (rd_L4 l0 x3_1) x4_3).f0) == 0) = true := beq_iff_eq.mpr c21
       have c21b1 : (((rd_T59 (rd_L4 l0 x3_1) x4_3).f0) != 0) = false := bne_eq_false_iff_eq.mpr c21
       clear c21
       by_cases c22 : ((rd_T59 (rd_L4 l0 x3_1) x4_3).f1).toList = ([] : List UInt8)
       rotate_left
       · rw [if_neg c22] at H
         have c22b0 : (((rd_T59 (rd_L4 l0 x3_1) x4_3).f1).toList == ([] : List UInt8)) = false := beq_eq_false_iff_ne.mpr c22
         have c22b1 : (((rd_T59 (rd_L4 l0 x3_1) x4_3).f1).toList != ([] : List UInt8)) = true := bne_iff_ne.mpr c22
         obtain rfl := Option.some.inj H
         have p130 : 0 ≤ (x3_1 : Int) := da
         have q130 : x3_1 < (l0.length : Int) := da
         obtain ⟨ad130, A130_0, c130_0, e130, hx130_0, hl130_0, hi130_0⟩ := at_L4 HR0.out x3_1 p130 q130
         cases e130
         replace hx130_0 := (HB.out.cell (World.block_lt_of_cell? w _ hx130_0)).trans hx130_0
         have HR130_0 := Aside0.mk hi130_0
         have HC130_0 := Aside0.mk hl130_0
         clear hi130_0 hl130_0
         replace p130 := eq_true p130
         replace q130 := eq_true q130
         have p131 : 0 ≤ (x3_1 : Int) := da
         have q131 : x3_1 < (l0.length : Int) := da
         obtain ⟨ad131, A131_0, c131_0, e131, hx131_0, hl131_0, hi131_0⟩ := at_L4 HR0.out x3_1 p131 q131
         obtain rfl : ad130 = ad131 := (by injection e131)
         replace hx131_0 := (HB.out.cell (World.block_lt_of_cell? w _ hx131_0)).trans hx131_0
         have HR131_0 := Aside0.mk hi131_0
         have HC131_0 := Aside0.mk hl131_0
         clear hi131_0 hl131_0
         replace p131 := eq_true p131
         replace q131 := eq_true q131
         have ea_ := Option.some.inj (hx130_0.symm.trans hx131_0)
         injection ea_ with ea_ en_ ec_
         subst ea_
         subst ec_
         clear en_
         have p132 : 0 ≤ (x4_3 : Int) := da
         have q132 : x4_3 < ((rd_L4 l0 x3_1).length : Int) := da
         obtain ⟨ad132, e132, hx132_0, hx132_1⟩ := at_T59 HR131_0.out x4_3 p132 q132
         cases e132
         replace hx132_0 := (HB.out.cell (World.block_lt_of_cell? w _ hx132_0)).trans hx132_0
         replace hx132_1 := (HB.out.cell (World.block_lt_of_cell? w _ hx132_1)).trans hx132_1
         replace p132 := eq_true p132
         replace q132 := eq_true q132
         go_wp2_with (first | ((with_reducible refine gate_dst (N := 5) rfl ?_); (try (refine gate_guard (by rfl) ?_; dsimp only)); refine box_event ?hg (N := 5) ?hd (cs := #[.int .u8 0, .string (⟨#[]⟩ : ByteArray)]) (t := 59) ?hr ?_; (case hd => rfl); (case hg => rfl); (case hr => first | (go_simp; done) | (go_simp; rfl)); intro gb133 hg w31 hbox hb; have BK133 := Aside0.mk (hbox); have GW133 := Aside0.mk ((by rw [hg]; exact (below_size tb) : w.heap.size ≤ gb133)); have GE133 := Aside0.mk ((by rw [hg]; exact (below_size tb) : w.heap.size ≤ gb133)); replace HB := Aside0.mk (below_step tb hb); clear hb hbox hg; have hcz32_0 : w31.cell? ⟨gb133, 0, none⟩ = some (.int .u8 0) := (blk_cell BK133.out 0).trans rfl; have hcz32_1 : w31.cell? ⟨gb133, 1, none⟩ = some (.string (⟨#[]⟩ : ByteArray)) := (blk_cell BK133.out 1).trans rfl; have hfz32_0 := blk_frozen BK133.out 0; have hfz32_1 := blk_frozen BK133.out 1) | ((with_reducible refine gate_callee (f := 15) rfl ?_); refine goesL_ (some 47) rfl rfl Tryz.func15 (by kernel_rfl) rfl #[.string ((rd_T59 (rd_L4 l0 x3_1) x4_3).f1)] rfl gl ?_; (with_reducible refine (tithebarnref13_Parse.calls k3 ((rd_T59 (rd_L4 l0 x3_1) x4_3).f1) t134 t137 t138 _ A11.out).mono ?_); rintro e w33 ⟨v135, rfl, ho0, hb⟩; refine ⟨_, rfl, ?_⟩; have HO136 := Aside0.mk (Kd.R_lower ho0 (below_size tb)); replace BK133 := Aside0.mk (blk_below (g := gb133) (o := .cells #[.int .u8 ((rd_T59 (rd_L4 l0 x3_1) x4_3).f0), .string ((rd_T59 (rd_L4 l0 x3_1) x4_3).f1)] 59 (0, 0)) (by (with_reducible repeat (first | refine blk_drewN ?_ _ | refine blk_drew ?_ | refine blk_alloc ?_ _)); refine blk_put (cs := #[.int .u8 ((rd_T59 (rd_L4 l0 x3_1) x4_3).f0), .string (⟨#[]⟩ : ByteArray)]) ?_ 1 _ rfl; (with_reducible repeat (first | refine blk_drewN ?_ _ | refine blk_drew ?_ | refine blk_alloc ?_ _)); refine blk_put (cs := #[.int .u8 0, .string (⟨#[]⟩ : ByteArray)]) ?_ 0 _ rfl; (with_reducible repeat (first | refine blk_drewN ?_ _ | refine blk_drew ?_ | refine blk_alloc ?_ _)); exact BK133.out) hb); replace HB := Aside0.mk (below_step tb hb); (try clear hb); (try clear ho0)) | ((with_reducible refine gate_dst (N := 6) rfl ?_); (try (refine gate_guard (by rfl) ?_; dsimp only)); refine box_event ?hg (N := 6) ?hd (cs := #[.slice none 0 0, .string (⟨#[]⟩ : ByteArray)]) (t := 30) ?hr ?_; (case hd => rfl); (case hg => rfl); (case hr => first | (go_simp; done) | (go_simp; rfl)); intro gb139 hg w34 hbox hb; replace HO136 := bR HO136 hb; have BK139 := Aside0.mk (hbox); have GW139 := Aside0.mk ((by rw [hg]; exact (below_size tb) : w.heap.size ≤ gb139)); have GE139 := Aside0.mk ((by rw [hg]; exact (below_size tb) : w.heap.size ≤ gb139)); replace HB := Aside0.mk (below_step tb hb); have NB133_139 := Aside0.mk ((by rw [hg]; exact Nat.ne_of_lt (blk_lt (g := gb133) (o := .cells #[.int .u8 ((rd_T59 (rd_L4 l0 x3_1) x4_3).f0), .string ((rd_T59 (rd_L4 l0 x3_1) x4_3).f1)] 59 (0, 0)) tk) : gb133 ≠ gb139)); have NB139_133 := Aside0.mk ((by rw [hg]; exact Nat.ne_of_gt (blk_lt (g := gb133) (o := .cells #[.int .u8 ((rd_T59 (rd_L4 l0 x3_1) x4_3).f0), .string ((rd_T59 (rd_L4 l0 x3_1) x4_3).f1)] 59 (0, 0)) tk) : gb139 ≠ gb133)); replace BK133 := Aside0.mk (blk_below (g := gb133) (o := .cells #[.int .u8 ((rd_T59 (rd_L4 l0 x3_1) x4_3).f0), .string ((rd_T59 (rd_L4 l0 x3_1) x4_3).f1)] 59 (0, 0)) tk hb); clear hb hbox hg; obtain ⟨Ao35, co35, eo35⟩ := Kd.R_slice HO136.out; subst eo35; have hnb36 := NB139_133.out; have hnc36 := NB133_139.out; have hcz37_0 : w34.cell? ⟨gb139, 0, none⟩ = some (.slice none 0 0) := (blk_cell BK139.out 0).trans rfl; have hcz37_1 : w34.cell? ⟨gb139, 1, none⟩ = some (.string (⟨#[]⟩ : ByteArray)) := (blk_cell BK139.out 1).trans rfl; have hfz37_0 := blk_frozen BK139.out 0; have hfz37_1 := blk_frozen BK139.out 1; have hcz38_0 : w34.cell? ⟨gb133, 0, none⟩ = some (.int .u8 ((rd_T59 (rd_L4 l0 x3_1) x4_3).f0)) := (blk_cell BK133.out 0).trans rfl; have hcz38_1 : w34.cell? ⟨gb133, 1, none⟩ = some (.string ((rd_T59 (rd_L4 l0 x3_1) x4_3).f1)) := (blk_cell BK133.out 1).trans rfl; have hfz38_0 := blk_frozen BK133.out 0; have hfz38_1 := blk_frozen BK133.out 1))
         go_ret
         exact ⟨by first | rfl | (simp [errW_none, errW_some] <;> rfl) | (simp [*, errW_none, errW_some] <;> rfl), tb⟩
       rw [if_pos c22] at H
       have c22b0 : (((rd_T59 (rd_L4 l0 x3_1) x4_3).f1).toList == ([] : List UInt8)) = true := beq_iff_eq.mpr c22
       have c22b1 : (((rd_T59 (rd_L4 l0 x3_1) x4_3).f1).toList != ([] : List UInt8)) = false := bne_eq_false_iff_eq.mpr c22
       clear c22
       have H' := Aside0.mk H
       clear H
       have p130 : 0 ≤ (x3_1 : Int) := da
       have q130 : x3_1 < (l0.length : Int) := da
       obtain ⟨ad130, A130_0, c130_0, e130, hx130_0, hl130_0, hi130_0⟩ := at_L4 HR0.out x3_1 p130 q130
       cases e130
       replace hx130_0 := (HB.out.cell (World.block_lt_of_cell? w _ hx130_0)).trans hx130_0
       have HR130_0 := Aside0.mk hi130_0
       have HC130_0 := Aside0.mk hl130_0
       clear hi130_0 hl130_0
       replace p130 := eq_true p130
       replace q130 := eq_true q130
       have p131 : 0 ≤ (x3_1 : Int) := da
       have q131 : x3_1 < (l0.length : Int) := da
       obtain ⟨ad131, A131_0, c131_0, e131, hx131_0, hl131_0, hi131_0⟩ := at_L4 HR0.out x3_1 p131 q131
       obtain rfl : ad130 = ad131 := (by injection e131)
       replace hx131_0 := (HB.out.cell (World.block_lt_of_cell? w _ hx131_0)).trans hx131_0
       have HR131_0 := Aside0.mk hi131_0
       have HC131_0 := Aside0.mk hl131_0
       clear hi131_0 hl131_0
       replace p131 := eq_true p131
       replace q131 := eq_true q131
       have ea_ := Option.some.inj (hx130_0.symm.trans hx131_0)
       injection ea_ with ea_ en_ ec_
       subst ea_
       subst ec_
       clear en_
       have p132 : 0 ≤ (x4_3 : Int) := da
       have q132 : x4_3 < ((rd_L4 l0 x3_1).length : Int) := da
       obtain ⟨ad132, e132, hx132_0, hx132_1⟩ := at_T59 HR131_0.out x4_3 p132 q132
       cases e132
       replace hx132_0 := (HB.out.cell (World.block_lt_of_cell? w _ hx132_0)).trans hx132_0
       replace hx132_1 := (HB.out.cell (World.block_lt_of_cell? w _ hx132_1)).trans hx132_1
       replace p132 := eq_true p132
       replace q132 := eq_true q132
       go_wp2_with (first | ((with_reducible refine gate_dst (N := 5) rfl ?_); (try (refine gate_guard (by rfl) ?_; dsimp only)); refine box_event ?hg (N := 5) ?hd (cs := #[.int .u8 0, .string (⟨#[]⟩ : ByteArray)]) (t := 59) ?hr ?_; (case hd => rfl); (case hg => rfl); (case hr => first | (go_simp; done) | (go_simp; rfl)); intro gb133 hg w23 hbox hb; have BK133 := Aside0.mk (hbox); have GW133 := Aside0.mk ((by rw [hg]; exact (below_size tb) : w.heap.size ≤ gb133)); have GE133 := Aside0.mk ((by rw [hg]; exact (below_size tb) : w.heap.size ≤ gb133)); replace HB := Aside0.mk (below_step tb hb); clear hb hbox hg; have hcz24_0 : w23.cell? ⟨gb133, 0, none⟩ = some (.int .u8 0) := (blk_cell BK133.out 0).trans rfl; have hcz24_1 : w23.cell? ⟨gb133, 1, none⟩ = some (.string (⟨#[]⟩ : ByteArray)) := (blk_cell BK133.out 1).trans rfl; have hfz24_0 := blk_frozen BK133.out 0; have hfz24_1 := blk_frozen BK133.out 1) | ((with_reducible refine gate_callee (f := 15) rfl ?_); refine goesL_ (some 47) rfl rfl Tryz.func15 (by kernel_rfl) rfl #[.string ((rd_T59 (rd_L4 l0 x3_1) x4_3).f1)] rfl gl ?_; (with_reducible refine (tithebarnref13_Parse.calls k3 ((rd_T59 (rd_L4 l0 x3_1) x4_3).f1) t134 t137 t138 _ A11.out).mono ?_); rintro e w25 ⟨v135, rfl, ho0, hb⟩; refine ⟨_, rfl, ?_⟩; have HO136 := Aside0.mk (Kd.R_lower ho0 (below_size tb)); replace BK133 := Aside0.mk (blk_below (g := gb133) (o := .cells #[.int .u8 ((rd_T59 (rd_L4 l0 x3_1) x4_3).f0), .string ((rd_T59 (rd_L4 l0 x3_1) x4_3).f1)] 59 (0, 0)) (by (with_reducible repeat (first | refine blk_drewN ?_ _ | refine blk_drew ?_ | refine blk_alloc ?_ _)); refine blk_put (cs := #[.int .u8 ((rd_T59 (rd_L4 l0 x3_1) x4_3).f0), .string (⟨#[]⟩ : ByteArray)]) ?_ 1 _ rfl; (with_reducible repeat (first | refine blk_drewN ?_ _ | refine blk_drew ?_ | refine blk_alloc ?_ _)); refine blk_put (cs := #[.int .u8 0, .string (⟨#[]⟩ : ByteArray)]) ?_ 0 _ rfl; (with_reducible repeat (first | refine blk_drewN ?_ _ | refine blk_drew ?_ | refine blk_alloc ?_ _)); exact BK133.out) hb); replace HB := Aside0.mk (below_step tb hb); (try clear hb); (try clear ho0)) | ((with_reducible refine gate_dst (N := 6) rfl ?_); (try (refine gate_guard (by rfl) ?_; dsimp only)); refine box_event ?hg (N := 6) ?hd (cs := #[.slice none 0 0, .string (⟨#[]⟩ : ByteArray)]) (t := 30) ?hr ?_; (case hd => rfl); (case hg => rfl); (case hr => first | (go_simp; done) | (go_simp; rfl)); intro gb139 hg w26 hbox hb; replace HO136 := bR HO136 hb; have BK139 := Aside0.mk (hbox); have GW139 := Aside0.mk ((by rw [hg]; exact (below_size tb) : w.heap.size ≤ gb139)); have GE139 := Aside0.mk ((by rw [hg]; exact (below_size tb) : w.heap.size ≤ gb139)); replace HB := Aside0.mk (below_step tb hb); have NB133_139 := Aside0.mk ((by rw [hg]; exact Nat.ne_of_lt (blk_lt (g := gb133) (o := .cells #[.int .u8 ((rd_T59 (rd_L4 l0 x3_1) x4_3).f0), .string ((rd_T59 (rd_L4 l0 x3_1) x4_3).f1)] 59 (0, 0)) tk) : gb133 ≠ gb139)); have NB139_133 := Aside0.mk ((by rw [hg]; exact Nat.ne_of_gt (blk_lt (g := gb133) (o := .cells #[.int .u8 ((rd_T59 (rd_L4 l0 x3_1) x4_3).f0), .string ((rd_T59 (rd_L4 l0 x3_1) x4_3).f1)] 59 (0, 0)) tk) : gb139 ≠ gb133)); replace BK133 := Aside0.mk (blk_below (g := gb133) (o := .cells #[.int .u8 ((rd_T59 (rd_L4 l0 x3_1) x4_3).f0), .string ((rd_T59 (rd_L4 l0 x3_1) x4_3).f1)] 59 (0, 0)) tk hb); clear hb hbox hg; obtain ⟨Ao27, co27, eo27⟩ := Kd.R_slice HO136.out; subst eo27; have hnb28 := NB139_133.out; have hnc28 := NB133_139.out; have hcz29_0 : w26.cell? ⟨gb139, 0, none⟩ = some (.slice none 0 0) := (blk_cell BK139.out 0).trans rfl; have hcz29_1 : w26.cell? ⟨gb139, 1, none⟩ = some (.string (⟨#[]⟩ : ByteArray)) := (blk_cell BK139.out 1).trans rfl; have hfz29_0 := blk_frozen BK139.out 0; have hfz29_1 := blk_frozen BK139.out 1; have hcz30_0 : w26.cell? ⟨gb133, 0, none⟩ = some (.int .u8 ((rd_T59 (rd_L4 l0 x3_1) x4_3).f0)) := (blk_cell BK133.out 0).trans rfl; have hcz30_1 : w26.cell? ⟨gb133, 1, none⟩ = some (.string ((rd_T59 (rd_L4 l0 x3_1) x4_3).f1)) := (blk_cell BK133.out 1).trans rfl; have hfz30_0 := blk_frozen BK133.out 0; have hfz30_1 := blk_frozen BK133.out 1))
       go_roundg k3
       case measure => have := HK1.out; have := HJ2.out; have := HK3.out; omega
       case rel => exact ⟨(wrap64 (x4_3 + 1)), rf, H', ⟨by have := HK1.out; have := HJ2.out; have := HK3.out; omega⟩, ⟨tb⟩⟩
end Go.Proofs.YtnbmdecehlljcaaGreatDoor.PRq
