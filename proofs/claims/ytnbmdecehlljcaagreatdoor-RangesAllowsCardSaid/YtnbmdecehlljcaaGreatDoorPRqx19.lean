-- Laid by a program of this session (wip/tools/pgiven.py) out of the seat's translation. Lean checks it.
import Derived.Test.YtnbmdecehlljcaaGreatDoorPRqx0
import Derived.Test.YtnbmdecehlljcaaGreatDoorPRqx5
import Derived.Test.YtnbmdecehlljcaaGreatDoorPRqx8
import Derived.Test.YtnbmdecehlljcaaGreatDoorPRqx18
namespace Go.Proofs.YtnbmdecehlljcaaGreatDoor.PRq
open Go.RowKit Go.Proofs.YtnbmdecehlljcaaGreatDoorW.PrintWords Go.Proofs.YtnbmdecehlljcaaGreatDoorW.PrintLast Go.Proofs.YtnbmdecehlljcaaGreatDoorW.PrintMore
attribute [local go_sem] max2_int min2_int max_two min_two max_three min_three max_four min_four   -- for this text's walks alone
set_option linter.unusedVariables false
set_option linter.unusedSimpArgs false

attribute [local go_sem] isSome_setCellV
/-! ### tithebarnref14_Allows: function 29 -/
mutual
def tithebarnref14_Allows.j0 : Nat → List (List (S59)) → Bool → List Int → ByteArray → Option (Bool)
 | 0, _, _, _, _ => none
 | k + 1, x0, x21, x264000, x264001 => if x21 = true then (some false) else (tithebarnref14_Allows.l0 k x0 0 x264000 x264001)
def tithebarnref14_Allows.l0 : Nat → List (List (S59)) → Int → List Int → ByteArray → Option (Bool)
 | 0, _, _, _, _ => none
 | k + 1, x0, x7, x264000, x264001 => if x7 < (x0.length : Int) then (tithebarnref14_Allows.l1 k x0 x7 true 0 x264000 x264001) else (some ((x0.length : Int) == 0))
def tithebarnref14_Allows.l1 : Nat → List (List (S59)) → Int → Bool → Int → List Int → ByteArray → Option (Bool)
 | 0, _, _, _, _, _, _ => none
 | k + 1, x0, x7, x8, x9, x264000, x264001 => if 0 ≤ x7 then (if x7 < (x0.length : Int) then (if x9 < ((rd_L4 x0 x7).length : Int) then (if x8 = true then (if 0 ≤ x9 then ((tithebarnref14_allows.f k ((rd_T59 (rd_L4 x0 x7) x9).f0) ((rd_T59 (rd_L4 x0 x7) x9).f1) x264000 x264001).bind fun t268 => (tithebarnref14_Allows.l1 k x0 x7 t268 (wrap64 (x9 + 1)) x264000 x264001)) else (none)) else (tithebarnref14_Allows.l1 k x0 x7 false (wrap64 (x9 + 1)) x264000 x264001)) else (if x8 = true then (some true) else (tithebarnref14_Allows.l0 k x0 (wrap64 (x7 + 1)) x264000 x264001))) else (none)) else (none)
end
def tithebarnref14_Allows.f (k : Nat) (l0 : List (List (S59))) (a1 : ByteArray) : Option (Bool) := (tithebarnref13_Parse.f k a1).bind fun bt258 => (if bt258.2.2 = 0 then ((tithebarnref14_May.f k l0).bind fun t264 => (tithebarnref14_Allows.j0 k l0 (!t264) bt258.1 bt258.2.1)) else (tithebarnref14_Allows.j0 k l0 true bt258.1 bt258.2.1))
theorem tithebarnref14_Allows.mono_l : ∀ k, (∀ y0 y1 y2 y3, LeO (tithebarnref14_Allows.j0 k y0 y1 y2 y3) (tithebarnref14_Allows.j0 (k + 1) y0 y1 y2 y3)) ∧ (∀ y0 y1 y2 y3, LeO (tithebarnref14_Allows.l0 k y0 y1 y2 y3) (tithebarnref14_Allows.l0 (k + 1) y0 y1 y2 y3)) ∧ (∀ y0 y1 y2 y3 y4 y5, LeO (tithebarnref14_Allows.l1 k y0 y1 y2 y3 y4 y5) (tithebarnref14_Allows.l1 (k + 1) y0 y1 y2 y3 y4 y5))
 | 0 => ⟨fun _ _ _ _ r h => by simp [tithebarnref14_Allows.j0] at h, fun _ _ _ _ r h => by simp [tithebarnref14_Allows.l0] at h, fun _ _ _ _ _ _ r h => by simp [tithebarnref14_Allows.l1] at h⟩
 | k + 1 => by
  obtain ⟨ih0, ih1, ih2⟩ := tithebarnref14_Allows.mono_l k
  refine ⟨?_, ?_, ?_⟩
  · intro y0 y1 y2 y3
    unfold tithebarnref14_Allows.j0
    repeat' first
    | (with_reducible exact ih0 _ _ _ _)
    | (with_reducible exact ih1 _ _ _ _)
    | (with_reducible exact ih2 _ _ _ _ _ _)
    | (with_reducible exact tithebarnref13_Parse.mono _ _)
    | (with_reducible exact tithebarnref14_May.mono _ _)
    | (with_reducible exact tithebarnref14_allows.mono _ _ _ _ _)
    | (with_reducible exact LeO.refl _)
    | (with_reducible exact LeO.none _)
    | (with_reducible refine LeO.ite ?_ ?_)
    | (with_reducible refine LeO.bind ?_ (fun _ => ?_))
    | exact ih0 _ _ _ _
    | exact ih1 _ _ _ _
    | exact ih2 _ _ _ _ _ _
    | exact tithebarnref13_Parse.mono _ _
    | exact tithebarnref14_May.mono _ _
    | exact tithebarnref14_allows.mono _ _ _ _ _
    | exact LeO.none _
    | refine LeO.ite ?_ ?_
    | refine LeO.bind ?_ (fun _ => ?_)
  · intro y0 y1 y2 y3
    unfold tithebarnref14_Allows.l0
    repeat' first
    | (with_reducible exact ih0 _ _ _ _)
    | (with_reducible exact ih1 _ _ _ _)
    | (with_reducible exact ih2 _ _ _ _ _ _)
    | (with_reducible exact tithebarnref13_Parse.mono _ _)
    | (with_reducible exact tithebarnref14_May.mono _ _)
    | (with_reducible exact tithebarnref14_allows.mono _ _ _ _ _)
    | (with_reducible exact LeO.refl _)
    | (with_reducible exact LeO.none _)
    | (with_reducible refine LeO.ite ?_ ?_)
    | (with_reducible refine LeO.bind ?_ (fun _ => ?_))
    | exact ih0 _ _ _ _
    | exact ih1 _ _ _ _
    | exact ih2 _ _ _ _ _ _
    | exact tithebarnref13_Parse.mono _ _
    | exact tithebarnref14_May.mono _ _
    | exact tithebarnref14_allows.mono _ _ _ _ _
    | exact LeO.none _
    | refine LeO.ite ?_ ?_
    | refine LeO.bind ?_ (fun _ => ?_)
  · intro y0 y1 y2 y3 y4 y5
    unfold tithebarnref14_Allows.l1
    repeat' first
    | (with_reducible exact ih0 _ _ _ _)
    | (with_reducible exact ih1 _ _ _ _)
    | (with_reducible exact ih2 _ _ _ _ _ _)
    | (with_reducible exact tithebarnref13_Parse.mono _ _)
    | (with_reducible exact tithebarnref14_May.mono _ _)
    | (with_reducible exact tithebarnref14_allows.mono _ _ _ _ _)
    | (with_reducible exact LeO.refl _)
    | (with_reducible exact LeO.none _)
    | (with_reducible refine LeO.ite ?_ ?_)
    | (with_reducible refine LeO.bind ?_ (fun _ => ?_))
    | exact ih0 _ _ _ _
    | exact ih1 _ _ _ _
    | exact ih2 _ _ _ _ _ _
    | exact tithebarnref13_Parse.mono _ _
    | exact tithebarnref14_May.mono _ _
    | exact tithebarnref14_allows.mono _ _ _ _ _
    | exact LeO.none _
    | refine LeO.ite ?_ ?_
    | refine LeO.bind ?_ (fun _ => ?_)
theorem tithebarnref14_Allows.mono : ∀ a0 a1 k, LeO (tithebarnref14_Allows.f k a0 a1) (tithebarnref14_Allows.f (k + 1) a0 a1) := by
 intro a0 a1 k
 obtain ⟨ih0, ih1, ih2⟩ := tithebarnref14_Allows.mono_l k
 unfold tithebarnref14_Allows.f
 repeat' first
  | (with_reducible exact ih0 _ _ _ _)
  | (with_reducible exact ih1 _ _ _ _)
  | (with_reducible exact ih2 _ _ _ _ _ _)
  | (with_reducible exact tithebarnref13_Parse.mono _ _)
  | (with_reducible exact tithebarnref14_May.mono _ _)
  | (with_reducible exact tithebarnref14_allows.mono _ _ _ _ _)
  | (with_reducible exact LeO.refl _)
  | (with_reducible exact LeO.none _)
  | (with_reducible refine LeO.ite ?_ ?_)
  | (with_reducible refine LeO.bind ?_ (fun _ => ?_))
  | exact ih0 _ _ _ _
  | exact ih1 _ _ _ _
  | exact ih2 _ _ _ _ _ _
  | exact tithebarnref13_Parse.mono _ _
  | exact tithebarnref14_May.mono _ _
  | exact tithebarnref14_allows.mono _ _ _ _ _
  | exact LeO.none _
  | refine LeO.ite ?_ ?_
  | refine LeO.bind ?_ (fun _ => ?_)
def tithebarnref14_Allows.T11 : Bool × List (List Nat × List Nat) := (true, [([], []), ([0], [0]), ([1], [1]), ([1], [1]), ([2, 3, 1], [1, 2, 3]), ([4, 1], [1, 4]), ([1], [1]), ([5, 6, 1], [1, 5, 6]), ([7, 1], [1, 7]), ([1], [1]), ([8, 9, 1, 1], [1, 8, 9]), ([1, 10], [1, 10]), ([11, 10, 0, 1, 2, 3, 4, 5, 6, 7, 8, 9, 10, 11], [0, 11])])
def tithebarnref14_Allows.B11 : List Nat := [0, 1, 3, 3, 15, 31, 3, 127, 255, 3, 1023, 2047, 4095]
theorem tithebarnref14_Allows.tab11 : rtab .any (opsOf Tryz.f29 11) = tithebarnref14_Allows.T11 := by kernel_rfl
theorem tithebarnref14_Allows.bits11 : waitsOk tithebarnref14_Allows.T11.2 tithebarnref14_Allows.B11 = true := by kernel_rfl
set_option maxHeartbeats 8000000 in
set_option maxRecDepth 100000 in
theorem tithebarnref14_Allows.calls (k : Nat) (A0 : Option Addr) (c0 : Nat) (l0 : List (List (S59))) (a1 : ByteArray) (r : Bool) (w : World) (hr0 : Kd.C (Kd.slice 59 k59) w A0 l0.length l0) (hc0 : l0.length ≤ c0) (h : tithebarnref14_Allows.f k l0 a1 = some r) :
 Calls Tryz.prog 29 #[.slice A0 l0.length c0, .string a1] w fun e w' => e = .returned (.bool r) ∧ Below w.heap.size w w' := by
 have hu30 := Tryz.underlying30
 have hu59 := Tryz.underlying59
 have HR0 := Aside0.mk hr0
 have HC0 := Aside0.mk hc0
 clear hr0 hc0
 have HB := Aside0.mk (Below.refl w.heap.size w)
 have H : ((tithebarnref13_Parse.f k a1).bind fun bt258 => (if bt258.2.2 = 0 then ((tithebarnref14_May.f k l0).bind fun t264 => (tithebarnref14_Allows.j0 k l0 (!t264) bt258.1 bt258.2.1)) else (tithebarnref14_Allows.j0 k l0 true bt258.1 bt258.2.1))) = some r := h
 clear h
 replace H := Option.bind_eq_some_iff.mp H
 obtain ⟨⟨t258, t261, t262⟩, A30, H⟩ := H
 replace H : (if t262 = 0 then ((tithebarnref14_May.f k l0).bind fun t264 => (tithebarnref14_Allows.j0 k l0 (!t264) t258 t261)) else (tithebarnref14_Allows.j0 k l0 true t258 t261)) = some r := H
 have A3 := Aside0.mk A30
 clear A30
 have HC4 := Aside0.mk H
 clear H
 go_enter Tryz.func29, Tryz.ntmps29
 go_upto_region 2 with (first | ((with_reducible refine gate_callee (f := 15) rfl ?_); refine goesL_ (some 12) rfl rfl Tryz.func15 (by kernel_rfl) rfl #[.string a1] rfl gl ?_; (with_reducible refine (tithebarnref13_Parse.calls k a1 t258 t261 t262 _ A3.out).mono ?_); rintro e w5 ⟨v259, rfl, ho0, hb⟩; refine ⟨_, rfl, ?_⟩; have HO260 := Aside0.mk (Kd.R_lower ho0 (below_size tb)); replace HB := Aside0.mk (below_step tb hb); (try clear hb); (try clear ho0)) | ((with_reducible refine gate_dst (N := 5) rfl ?_); refine box_event ?hg (N := 5) ?hd (cs := #[.slice none 0 0, .string (⟨#[]⟩ : ByteArray)]) (t := 30) ?hr ?_; (case hd => rfl); (case hg => rfl); (case hr => first | (go_simp; done) | (go_simp; rfl)); intro gb263 hg w6 hbox hb; replace HO260 := bR HO260 hb; have BK263 := Aside0.mk (hbox); have GW263 := Aside0.mk ((by rw [hg]; exact (below_size tb) : w.heap.size ≤ gb263)); have GE263 := Aside0.mk ((by rw [hg]; exact (below_size tb) : w.heap.size ≤ gb263)); replace HB := Aside0.mk (below_step tb hb); clear hb hbox hg; obtain ⟨Ao7, co7, eo7⟩ := Kd.R_slice HO260.out; subst eo7; have hcz8_0 : w6.cell? ⟨gb263, 0, none⟩ = some (.slice none 0 0) := (blk_cell BK263.out 0).trans rfl; have hcz8_1 : w6.cell? ⟨gb263, 1, none⟩ = some (.string (⟨#[]⟩ : ByteArray)) := (blk_cell BK263.out 1).trans rfl; have hfz8_0 := blk_frozen BK263.out 0; have hfz8_1 := blk_frozen BK263.out 1))
 (try simp only [Act.put, List.setIfInBounds_toArray, List.set_cons_zero, List.set_cons_succ])
 go_cut [21] (fun v21 wc => ∃ (kq : Nat) (x21_3 : Bool), v21 = .bool x21_3 ∧ Aside0 (tithebarnref14_Allows.j0 kq l0 x21_3 t258 t261 = some r) ∧ Aside0 (kq ≤ k) ∧ Aside0 (Kd.R (Kd.int .i64) 3 wc w.heap.size (fun _ => True) (.slice Ao7 t258.length co7) t258) ∧ Aside0 (wc.heap[gb263]? = some (.cells #[(.slice Ao7 t258.length co7), .string t261] 30 (0, 0))) ∧ Aside0 (Below w.heap.size w wc))
 case first =>
  have H := HC4.out
  clear HC4
  by_cases c9 : t262 = 0
  rotate_left
  · rw [if_neg c9] at H
    have c9b0 : (t262 == 0) = false := beq_eq_false_iff_ne.mpr c9
    have c9b1 : (t262 != 0) = true := bne_iff_ne.mpr c9
    (first | rw [c9b0] | (simp only [i64_w, i32_w]; rw [c9b0]) | skip)
    have H' := Aside0.mk H
    clear H
    go_wp2
    go_meet
    case rel => exact ⟨_, (true), rf, H', ⟨by first | omega | exact Nat.le_refl _⟩, ⟨by (with_reducible repeat (first | apply Kd.R_alloc | apply Kd.R_drewN | apply Kd.R_drew)); exact Kd.R_mono (Kd.R_far (p := ⟨gb263, 1, none⟩) (Kd.R_far (p := ⟨gb263, 0, none⟩) (Kd.R_types HO260.out BK263.out (by decide)) (fun _ hk => hk.2) (.slice Ao7 t258.length co7)) (fun _ hk => hk.2) (.string t261)) (fun _ hk => trivial)⟩, ⟨by (with_reducible repeat (first | refine blk_drewN ?_ _ | refine blk_drew ?_ | refine blk_alloc ?_ _)); refine blk_put (cs := #[.slice Ao7 t258.length co7, .string (⟨#[]⟩ : ByteArray)]) ?_ 1 _ rfl; (with_reducible repeat (first | refine blk_drewN ?_ _ | refine blk_drew ?_ | refine blk_alloc ?_ _)); refine blk_put (cs := #[.slice none 0 0, .string (⟨#[]⟩ : ByteArray)]) ?_ 0 _ rfl; (with_reducible repeat (first | refine blk_drewN ?_ _ | refine blk_drew ?_ | refine blk_alloc ?_ _)); exact BK263.out⟩, ⟨tb⟩⟩
  rw [if_pos c9] at H
  have c9b0 : (t262 == 0) = true := beq_iff_eq.mpr c9
  have c9b1 : (t262 != 0) = false := bne_eq_false_iff_eq.mpr c9
  clear c9
  (first | rw [c9b0] | (simp only [i64_w, i32_w]; rw [c9b0]) | skip)
  obtain ⟨t264, A100, H⟩ := Option.bind_eq_some_iff.mp H
  have A10 := Aside0.mk A100
  clear A100
  have H' := Aside0.mk H
  clear H
  go_wp2_with (first | (go_at_call 53; (with_reducible refine (tithebarnref14_May.calls k _ _ l0 t264 _ ?side1 ?side2 A10.out).mono ?_); (case side1 => exact Kd.C_below HR0.out tb); (case side2 => exact HC0.out); rintro e w11 ⟨rfl, hb⟩; replace HO260 := Aside0.mk (Kd.R_below (by (with_reducible repeat (first | apply Kd.R_alloc | apply Kd.R_drewN | apply Kd.R_drew)); exact (Kd.R_mono (Kd.R_far (p := ⟨gb263, 1, none⟩) (Kd.R_far (p := ⟨gb263, 0, none⟩) (Kd.R_types HO260.out BK263.out (by decide)) (fun _ hk => hk.2) (.slice Ao7 t258.length co7)) (fun _ hk => hk.2) (.string t261)) (fun _ h_ => h_.1))) hb); replace BK263 := Aside0.mk (blk_below (g := gb263) (o := .cells #[.slice Ao7 t258.length co7, .string t261] 30 (0, 0)) (by (with_reducible repeat (first | refine blk_drewN ?_ _ | refine blk_drew ?_ | refine blk_alloc ?_ _)); refine blk_put (cs := #[.slice Ao7 t258.length co7, .string (⟨#[]⟩ : ByteArray)]) ?_ 1 _ rfl; (with_reducible repeat (first | refine blk_drewN ?_ _ | refine blk_drew ?_ | refine blk_alloc ?_ _)); refine blk_put (cs := #[.slice none 0 0, .string (⟨#[]⟩ : ByteArray)]) ?_ 0 _ rfl; (with_reducible repeat (first | refine blk_drewN ?_ _ | refine blk_drew ?_ | refine blk_alloc ?_ _)); exact BK263.out) hb); replace HB := Aside0.mk (below_step tb hb); (try clear hb)))
  go_meet
  case rel => exact ⟨_, (!t264), rf, H', ⟨by first | omega | exact Nat.le_refl _⟩, ⟨pR HO260.out⟩, ⟨by (with_reducible repeat (first | refine blk_drewN ?_ _ | refine blk_drew ?_ | refine blk_alloc ?_ _)); exact BK263.out⟩, ⟨tb⟩⟩
 case rest =>
  clear HC4
  try clear c1
  try clear c2
  try clear p2
  try clear c9
  try clear c9b0
  try clear c9b1
  try clear hcz8_0
  try clear hcz8_1
  try clear hfz8_0
  try clear hfz8_1
  obtain ⟨kq, x21_3, rfl, HA, HJ3, HO_264000, BK263, HB⟩ := hcut
  cases kq with
  | zero => exact absurd HA.out (by simp [tithebarnref14_Allows.j0])
  | succ kj3 =>
   have H := HA.out
   clear HA
   simp only [tithebarnref14_Allows.j0] at H
   by_cases c12 : x21_3 = true
   · subst c12
     rw [if_pos rfl] at H
     obtain rfl := Option.some.inj H
     go_wp2
     go_ret
     exact ⟨by first | rfl | (simp [errW_none, errW_some] <;> rfl) | (simp [*, errW_none, errW_some] <;> rfl), tb⟩
   replace c12 := Bool.eq_false_iff.mpr c12
   subst c12
   rw [if_neg (show ¬ (false = true) by decide)] at H
   have H' := Aside0.mk H
   clear H
   go_wp2
   go_loopg [7] kj3 (fun kq v7 w' => ∃ (x7_2 : Int), v7 = .int .i64 x7_2 ∧ Aside0 (tithebarnref14_Allows.l0 kq l0 x7_2 t258 t261 = some r) ∧ Aside0 (kq ≤ kj3) ∧ Aside0 (Kd.R (Kd.int .i64) 3 w' w.heap.size (fun _ => True) (.slice Ao7 t258.length co7) t258) ∧ Aside0 (w'.heap[gb263]? = some (.cells #[(.slice Ao7 t258.length co7), .string t261] 30 (0, 0))) ∧ Aside0 (Below w.heap.size w w'))
   case atStart => exact ⟨(0), rf, H', ⟨Nat.le_refl _⟩, ⟨pR HO_264000.out⟩, ⟨by (with_reducible repeat (first | refine blk_drewN ?_ _ | refine blk_drew ?_ | refine blk_alloc ?_ _)); exact BK263.out⟩, ⟨tb⟩⟩
   case round =>
    clear H'
    try clear c1
    try clear c2
    try clear p2
    try clear c9
    try clear c9b0
    try clear c9b1
    try clear c12
    try clear hcz8_0
    try clear hcz8_1
    try clear hfz8_0
    try clear hfz8_1
    try clear p2
    obtain ⟨x7_2, rfl, HA, HK2, HO_264000, BK263, HB⟩ := hrel
    cases gk with
    | zero => exact absurd HA.out (by simp [tithebarnref14_Allows.l0])
    | succ k2 =>
     have H := HA.out
     clear HA
     simp only [tithebarnref14_Allows.l0] at H
     by_cases c13 : x7_2 < (l0.length : Int)
     rotate_left
     · rw [if_neg c13] at H
       have c13b0 : decide (x7_2 < (l0.length : Int)) = false := decide_eq_false c13
       clear c13
       obtain rfl := Option.some.inj H
       go_wp2
       go_ret
       exact ⟨by first | rfl | (simp [errW_none, errW_some] <;> rfl) | (simp [*, errW_none, errW_some] <;> rfl), tb⟩

     rw [if_pos c13] at H
     have c13b0 : decide (x7_2 < (l0.length : Int)) = true := decide_eq_true c13
     clear c13
     have H' := Aside0.mk H
     clear H
     go_wp2
     go_loopg [8, 9] k2 (fun kq v8 v9 w' => ∃ (x8_3 : Bool) (x9_3 : Int), v8 = .bool x8_3 ∧ v9 = .int .i64 x9_3 ∧ Aside0 (tithebarnref14_Allows.l1 kq l0 x7_2 x8_3 x9_3 t258 t261 = some r) ∧ Aside0 (kq ≤ k2) ∧ Aside0 (Kd.R (Kd.int .i64) 3 w' w.heap.size (fun _ => True) (.slice Ao7 t258.length co7) t258) ∧ Aside0 (w'.heap[gb263]? = some (.cells #[(.slice Ao7 t258.length co7), .string t261] 30 (0, 0))) ∧ Aside0 (Below w.heap.size w w'))
     case atStart => exact ⟨(true), (0), rf, rf, H', ⟨Nat.le_refl _⟩, ⟨pR HO_264000.out⟩, ⟨by (with_reducible repeat (first | refine blk_drewN ?_ _ | refine blk_drew ?_ | refine blk_alloc ?_ _)); exact BK263.out⟩, ⟨tb⟩⟩
     case round =>
      clear H'
      try clear c1
      try clear c2
      try clear p2
      try clear c9
      try clear c9b0
      try clear c9b1
      try clear c12
      try clear c13
      try clear c13b0
      try clear hcz8_0
      try clear hcz8_1
      try clear hfz8_0
      try clear hfz8_1
      try clear p2
      obtain ⟨x8_3, x9_3, rfl, rfl, HA, HK3, HO_264000, BK263, HB⟩ := hrel
      cases gk with
      | zero => exact absurd HA.out (by simp [tithebarnref14_Allows.l1])
      | succ k3 =>
       have H := HA.out
       clear HA
       simp only [tithebarnref14_Allows.l1] at H
       by_cases c14 : 0 ≤ x7_2
       rotate_left
       · rw [if_neg c14] at H
         exact absurd H (by simp)
       rw [if_pos c14] at H
       have c14b0 : decide (0 ≤ x7_2) = true := decide_eq_true c14
       clear c14
       by_cases c15 : x7_2 < (l0.length : Int)
       rotate_left
       · rw [if_neg c15] at H
         exact absurd H (by simp)
       rw [if_pos c15] at H
       have c15b0 : decide (x7_2 < (l0.length : Int)) = true := decide_eq_true c15
       clear c15
       by_cases c16 : x9_3 < ((rd_L4 l0 x7_2).length : Int)
       rotate_left
       · rw [if_neg c16] at H
         have c16b0 : decide (x9_3 < ((rd_L4 l0 x7_2).length : Int)) = false := decide_eq_false c16
         clear c16
         by_cases c23 : x8_3 = true
         · subst c23
           rw [if_pos rfl] at H
           obtain rfl := Option.some.inj H
           have p265 : 0 ≤ (x7_2 : Int) := da
           have q265 : x7_2 < (l0.length : Int) := da
           obtain ⟨ad265, A265_0, c265_0, e265, hx265_0, hl265_0, hi265_0⟩ := at_L4 HR0.out x7_2 p265 q265
           cases e265
           replace hx265_0 := (HB.out.cell (World.block_lt_of_cell? w _ hx265_0)).trans hx265_0
           have HR265_0 := Aside0.mk hi265_0
           have HC265_0 := Aside0.mk hl265_0
           clear hi265_0 hl265_0
           replace p265 := eq_true p265
           replace q265 := eq_true q265
           go_wp2
           go_ret
           exact ⟨by first | rfl | (simp [errW_none, errW_some] <;> rfl) | (simp [*, errW_none, errW_some] <;> rfl), tb⟩
         replace c23 := Bool.eq_false_iff.mpr c23
         subst c23
         rw [if_neg (show ¬ (false = true) by decide)] at H
         have H' := Aside0.mk H
         clear H
         have p265 : 0 ≤ (x7_2 : Int) := da
         have q265 : x7_2 < (l0.length : Int) := da
         obtain ⟨ad265, A265_0, c265_0, e265, hx265_0, hl265_0, hi265_0⟩ := at_L4 HR0.out x7_2 p265 q265
         cases e265
         replace hx265_0 := (HB.out.cell (World.block_lt_of_cell? w _ hx265_0)).trans hx265_0
         have HR265_0 := Aside0.mk hi265_0
         have HC265_0 := Aside0.mk hl265_0
         clear hi265_0 hl265_0
         replace p265 := eq_true p265
         replace q265 := eq_true q265
         go_wp2
         go_roundg k3
         case measure => have := HJ3.out; have := HK2.out; have := HK3.out; omega
         case rel => exact ⟨(wrap64 (x7_2 + 1)), rf, H', ⟨by have := HJ3.out; have := HK2.out; have := HK3.out; omega⟩, ⟨pR HO_264000.out⟩, ⟨by (with_reducible repeat (first | refine blk_drewN ?_ _ | refine blk_drew ?_ | refine blk_alloc ?_ _)); exact BK263.out⟩, ⟨tb⟩⟩
       rw [if_pos c16] at H
       have c16b0 : decide (x9_3 < ((rd_L4 l0 x7_2).length : Int)) = true := decide_eq_true c16
       clear c16
       by_cases c17 : x8_3 = true
       rotate_left
       · replace c17 := Bool.eq_false_iff.mpr c17
         subst c17
         rw [if_neg (show ¬ (false = true) by decide)] at H
         have H' := Aside0.mk H
         clear H
         have p265 : 0 ≤ (x7_2 : Int) := da
         have q265 : x7_2 < (l0.length : Int) := da
         obtain ⟨ad265, A265_0, c265_0, e265, hx265_0, hl265_0, hi265_0⟩ := at_L4 HR0.out x7_2 p265 q265
         cases e265
         replace hx265_0 := (HB.out.cell (World.block_lt_of_cell? w _ hx265_0)).trans hx265_0
         have HR265_0 := Aside0.mk hi265_0
         have HC265_0 := Aside0.mk hl265_0
         clear hi265_0 hl265_0
         replace p265 := eq_true p265
         replace q265 := eq_true q265
         try go_wp2
         replace HO_264000 := Aside0.mk (Kd.R_drew HO_264000.out)
         replace BK263 := Aside0.mk (blk_drew BK263.out)
         replace HB := Aside0.mk (below_drew1 HB.out)
         refine start_ (n := 13) (S := fun w' => True) (ds := []) #[false, false, false, false, false, false, false, false, false, false, false, false, false] (by kernel_rfl) rfl rfl trivial (fun hHeld => ?_); refine with_tabW tithebarnref14_Allows.tab11 tithebarnref14_Allows.bits11 (fun HT_ HW_ => ?_)
         generalize wr.drew = w22 at HO_264000 BK263 HB hHeld ⊢
         refine pure_ (i := 0) (N := some 37) (v := ?_) (a' := ?_) #[true, false, false, false, false, false, false, false, false, false, false, false, false] rfl rfl (any_of HT_.out (by kernel_rfl)) (fun _ _ _ h => h) (Or.inl ⟨by rfl, ?_⟩) ?_ ?_
         rotate_left
         · intro w'
           go_simp
           with_reducible rfl
         rotate_left
         · simp only [Act.put, List.setIfInBounds_toArray, List.set_cons_zero, List.set_cons_succ, i64_w, i32_w]
           rfl
         refine pure_ (i := 1) (N := some 38) (v := ?_) (a' := ?_) #[true, true, false, false, false, false, false, false, false, false, false, false, false] rfl rfl (any_of HT_.out (by kernel_rfl)) (fun _ _ _ h => h) (Or.inl ⟨by rfl, ?_⟩) ?_ ?_
         rotate_left
         · intro w'
           go_simp
           with_reducible rfl
         rotate_left
         · simp only [Act.put, List.setIfInBounds_toArray, List.set_cons_zero, List.set_cons_succ, i64_w, i32_w]
           rfl
         refine pure_ (i := 2) (N := some 39) (v := undef) (a' := ?_) #[true, true, true, false, false, false, false, false, false, false, false, false, false] rfl rfl (any_of HT_.out (by kernel_rfl)) (fun _ _ _ h => h) (Or.inr ⟨by rfl, rfl⟩) ?_ ?_
         rotate_left
         · simp only [Act.put, List.setIfInBounds_toArray, List.set_cons_zero, List.set_cons_succ, i64_w, i32_w]
           rfl
         refine pure_ (i := 3) (N := some 40) (v := undef) (a' := ?_) #[true, true, true, true, false, false, false, false, false, false, false, false, false] rfl rfl (any_of HT_.out (by kernel_rfl)) (fun _ _ _ h => h) (Or.inr ⟨by rfl, rfl⟩) ?_ ?_
         rotate_left
         · simp only [Act.put, List.setIfInBounds_toArray, List.set_cons_zero, List.set_cons_succ, i64_w, i32_w]
           rfl
         refine pure_ (i := 4) (N := some 41) (v := undef) (a' := ?_) #[true, true, true, true, true, false, false, false, false, false, false, false, false] rfl rfl (any_of HT_.out (by kernel_rfl)) (fun _ _ _ h => h) (Or.inr ⟨by rfl, rfl⟩) ?_ ?_
         rotate_left
         · simp only [Act.put, List.setIfInBounds_toArray, List.set_cons_zero, List.set_cons_succ, i64_w, i32_w]
           rfl
         refine pure_ (i := 5) (N := some 42) (v := undef) (a' := ?_) #[true, true, true, true, true, true, false, false, false, false, false, false, false] rfl rfl (any_of HT_.out (by kernel_rfl)) (fun _ _ _ h => h) (Or.inr ⟨by rfl, rfl⟩) ?_ ?_
         rotate_left
         · simp only [Act.put, List.setIfInBounds_toArray, List.set_cons_zero, List.set_cons_succ, i64_w, i32_w]
           rfl
         refine pure_ (i := 6) (N := some 43) (v := undef) (a' := ?_) #[true, true, true, true, true, true, true, false, false, false, false, false, false] rfl rfl (any_of HT_.out (by kernel_rfl)) (fun _ _ _ h => h) (Or.inr ⟨by rfl, rfl⟩) ?_ ?_
         rotate_left
         · simp only [Act.put, List.setIfInBounds_toArray, List.set_cons_zero, List.set_cons_succ, i64_w, i32_w]
           rfl
         refine pure_ (i := 7) (N := some 44) (v := undef) (a' := ?_) #[true, true, true, true, true, true, true, true, false, false, false, false, false] rfl rfl (any_of HT_.out (by kernel_rfl)) (fun _ _ _ h => h) (Or.inr ⟨by rfl, rfl⟩) ?_ ?_
         rotate_left
         · simp only [Act.put, List.setIfInBounds_toArray, List.set_cons_zero, List.set_cons_succ, i64_w, i32_w]
           rfl
         refine pure_ (i := 8) (N := some 45) (v := undef) (a' := ?_) #[true, true, true, true, true, true, true, true, true, false, false, false, false] rfl rfl (any_of HT_.out (by kernel_rfl)) (fun _ _ _ h => h) (Or.inr ⟨by rfl, rfl⟩) ?_ ?_
         rotate_left
         · simp only [Act.put, List.setIfInBounds_toArray, List.set_cons_zero, List.set_cons_succ, i64_w, i32_w]
           rfl
         refine pure_ (i := 9) (N := some 46) (v := undef) (a' := ?_) #[true, true, true, true, true, true, true, true, true, true, false, false, false] rfl rfl (any_of HT_.out (by kernel_rfl)) (fun _ _ _ h => h) (Or.inr ⟨by rfl, rfl⟩) ?_ ?_
         rotate_left
         · simp only [Act.put, List.setIfInBounds_toArray, List.set_cons_zero, List.set_cons_succ, i64_w, i32_w]
           rfl
         refine pure_ (i := 10) (N := some 47) (v := undef) (a' := ?_) #[true, true, true, true, true, true, true, true, true, true, true, false, false] rfl rfl (any_of HT_.out (by kernel_rfl)) (fun _ _ _ h => h) (Or.inr ⟨by rfl, rfl⟩) ?_ ?_
         rotate_left
         · simp only [Act.put, List.setIfInBounds_toArray, List.set_cons_zero, List.set_cons_succ, i64_w, i32_w]
           rfl
         refine pure_ (i := 11) (N := some 48) (v := ?_) (a' := ?_) #[true, true, true, true, true, true, true, true, true, true, true, true, false] rfl rfl (any_of HT_.out (by kernel_rfl)) (fun _ _ _ h => h) (Or.inl ⟨by rfl, ?_⟩) ?_ ?_
         rotate_left
         · intro w'
           go_simp
           with_reducible rfl
         rotate_left
         · simp only [Act.put, List.setIfInBounds_toArray, List.set_cons_zero, List.set_cons_succ, i64_w, i32_w]
           rfl
         refine pure_ (i := 12) (N := some 8) (v := ?_) (a' := ?_) #[true, true, true, true, true, true, true, true, true, true, true, true, true] rfl rfl (any_of HT_.out (by kernel_rfl)) (fun _ _ _ h => h) (Or.inl ⟨by rfl, ?_⟩) ?_ ?_
         rotate_left
         · intro w'
           go_simp
           with_reducible rfl
         rotate_left
         · simp only [Act.put, List.setIfInBounds_toArray, List.set_cons_zero, List.set_cons_succ, i64_w, i32_w]
           rfl
         refine done_ (done_of HT_.out (by kernel_rfl)) ?_
         try go_wp2
         go_roundg k3
         case measure => have := HJ3.out; have := HK2.out; have := HK3.out; omega
         case rel => exact ⟨(false), (wrap64 (x9_3 + 1)), rf, rf, H', ⟨by have := HJ3.out; have := HK2.out; have := HK3.out; omega⟩, ⟨pR HO_264000.out⟩, ⟨by (with_reducible repeat (first | refine blk_drewN ?_ _ | refine blk_drew ?_ | refine blk_alloc ?_ _)); exact BK263.out⟩, ⟨tb⟩⟩
       subst c17
       rw [if_pos rfl] at H
       by_cases c18 : 0 ≤ x9_3
       rotate_left
       · rw [if_neg c18] at H
         exact absurd H (by simp)
       rw [if_pos c18] at H
       have c18b0 : decide (0 ≤ x9_3) = true := decide_eq_true c18
       clear c18
       obtain ⟨t268, A190, H⟩ := Option.bind_eq_some_iff.mp H
       have A19 := Aside0.mk A190
       clear A190
       have H' := Aside0.mk H
       clear H
       have p265 : 0 ≤ (x7_2 : Int) := da
       have q265 : x7_2 < (l0.length : Int) := da
       obtain ⟨ad265, A265_0, c265_0, e265, hx265_0, hl265_0, hi265_0⟩ := at_L4 HR0.out x7_2 p265 q265
       cases e265
       replace hx265_0 := (HB.out.cell (World.block_lt_of_cell? w _ hx265_0)).trans hx265_0
       have HR265_0 := Aside0.mk hi265_0
       have HC265_0 := Aside0.mk hl265_0
       clear hi265_0 hl265_0
       replace p265 := eq_true p265
       replace q265 := eq_true q265
       try go_wp2
       replace HO_264000 := Aside0.mk (Kd.R_drew HO_264000.out)
       replace BK263 := Aside0.mk (blk_drew BK263.out)
       replace HB := Aside0.mk (below_drew1 HB.out)
       have p266 : 0 ≤ (x7_2 : Int) := da
       have q266 : x7_2 < (l0.length : Int) := da
       obtain ⟨ad266, A266_0, c266_0, e266, hx266_0, hl266_0, hi266_0⟩ := at_L4 HR0.out x7_2 p266 q266
       have hw266_0 := hx266_0
       obtain rfl : ad265 = ad266 := (by injection e266)
       replace hx266_0 := (HB.out.cell (World.block_lt_of_cell? w _ hx266_0)).trans hx266_0
       have HR266_0 := Aside0.mk hi266_0
       have HC266_0 := Aside0.mk hl266_0
       clear hi266_0 hl266_0
       replace p266 := eq_true p266
       replace q266 := eq_true q266
       have p267 : 0 ≤ (x9_3 : Int) := da
       have q267 : x9_3 < ((rd_L4 l0 x7_2).length : Int) := da
       obtain ⟨ad267, e267, hx267_0, hx267_1⟩ := at_T59 HR266_0.out x9_3 p267 q267
       have hw267_1 := hx267_1
       have hw267_0 := hx267_0
       cases e267
       replace hx267_0 := (HB.out.cell (World.block_lt_of_cell? w _ hx267_0)).trans hx267_0
       replace hx267_1 := (HB.out.cell (World.block_lt_of_cell? w _ hx267_1)).trans hx267_1
       replace p267 := eq_true p267
       replace q267 := eq_true q267
       refine start_ (n := 13) (S := fun w' => w'.cell? ⟨gb263, 0, none⟩ = some (.slice Ao7 t258.length co7) ∧ w'.cell? ⟨gb263, 1, none⟩ = some (.string t261) ∧ w'.cell? (ad265.add (x7_2).toNat) = some (.slice (some ad267) (rd_L4 l0 x7_2).length c266_0) ∧ w'.cell? (ad267.add ((x9_3).toNat * 2)) = some (.int .u8 ((rd_T59 (rd_L4 l0 x7_2) x9_3).f0)) ∧ w'.cell? ⟨(ad267.add ((x9_3).toNat * 2)).block, (ad267.add ((x9_3).toNat * 2)).off + 1, none⟩ = some (.string ((rd_T59 (rd_L4 l0 x7_2) x9_3).f1))) (ds := []) #[false, false, false, false, false, false, false, false, false, false, false, false, false] (by kernel_rfl) rfl rfl ⟨(blk_cell BK263.out 0).trans rfl, (blk_cell BK263.out 1).trans rfl, ((HB.out.cell (World.block_lt_of_cell? w _ hw266_0)).trans hw266_0), ((HB.out.cell (World.block_lt_of_cell? w _ hw267_0)).trans hw267_0), ((HB.out.cell (World.block_lt_of_cell? w _ hw267_1)).trans hw267_1)⟩ (fun hHeld => ?_); refine with_tabW tithebarnref14_Allows.tab11 tithebarnref14_Allows.bits11 (fun HT_ HW_ => ?_)
       generalize wr.drew = w20 at HO_264000 BK263 HB HR266_0 hx266_0 hx267_0 hx267_1 hHeld ⊢
       refine pure_ (i := 0) (N := some 37) (v := ?_) (a' := ?_) #[true, false, false, false, false, false, false, false, false, false, false, false, false] rfl rfl (any_of HT_.out (by kernel_rfl)) (fun _ _ _ h => h) (Or.inl ⟨by rfl, ?_⟩) ?_ ?_
       rotate_left
       · intro w'
         go_simp
         with_reducible rfl
       rotate_left
       · simp only [Act.put, List.setIfInBounds_toArray, List.set_cons_zero, List.set_cons_succ, i64_w, i32_w]
         rfl
       refine pure_ (i := 1) (N := some 38) (v := ?_) (a' := ?_) #[true, true, false, false, false, false, false, false, false, false, false, false, false] rfl rfl (any_of HT_.out (by kernel_rfl)) (fun _ _ _ h => h) (Or.inl ⟨by rfl, ?_⟩) ?_ ?_
       rotate_left
       · intro w'
         go_simp
         with_reducible rfl
       rotate_left
       · simp only [Act.put, List.setIfInBounds_toArray, List.set_cons_zero, List.set_cons_succ, i64_w, i32_w]
         rfl
       refine pure_ (i := 2) (N := some 39) (v := ?_) (a' := ?_) #[true, true, true, false, false, false, false, false, false, false, false, false, false] rfl rfl (any_of HT_.out (by kernel_rfl)) (fun _ _ _ h => h) (Or.inl ⟨by rfl, ?_⟩) ?_ ?_
       rotate_left
       · intro w'
         go_simp
         with_reducible rfl
       rotate_left
       · simp only [Act.put, List.setIfInBounds_toArray, List.set_cons_zero, List.set_cons_succ, i64_w, i32_w]
         rfl
       refine pure_ (i := 3) (N := some 40) (v := ?_) (a' := ?_) #[true, true, true, true, false, false, false, false, false, false, false, false, false] rfl rfl (any_of HT_.out (by kernel_rfl)) (fun _ _ _ h => h) (Or.inl ⟨by rfl, ?_⟩) ?_ ?_
       rotate_left
       · intro w'
         go_simp
         with_reducible rfl
       rotate_left
       · simp only [Act.put, List.setIfInBounds_toArray, List.set_cons_zero, List.set_cons_succ, i64_w, i32_w]
         rfl
       refine pure_ (i := 4) (N := some 41) (v := ?_) (a' := ?_) #[true, true, true, true, true, false, false, false, false, false, false, false, false] rfl rfl (any_of HT_.out (by kernel_rfl)) (fun _ _ _ h => h) (Or.inl ⟨by rfl, ?_⟩) ?_ ?_
       rotate_left
       · intro w'
         go_simp
         with_reducible rfl
       rotate_left
       · simp only [Act.put, List.setIfInBounds_toArray, List.set_cons_zero, List.set_cons_succ, i64_w, i32_w]
         rfl
       refine pure_ (i := 6) (N := some 43) (v := ?_) (a' := ?_) #[true, true, true, true, true, false, true, false, false, false, false, false, false] rfl rfl (any_of HT_.out (by kernel_rfl)) (fun _ _ _ h => h) (Or.inl ⟨by rfl, ?_⟩) ?_ ?_
       rotate_left
       · intro w'
         go_simp
         with_reducible rfl
       rotate_left
       · simp only [Act.put, List.setIfInBounds_toArray, List.set_cons_zero, List.set_cons_succ, i64_w, i32_w]
         rfl
       refine take_ (i := 5) (N := some 42) (v := ?_) (a' := ?_) #[true, true, true, true, true, true, true, false, false, false, false, false, false] rfl rfl (take_ofW HT_.out HW_.out (by kernel_rfl)) (fun _ _ _ h => h) (Or.inl ⟨by rfl, ?_⟩) hHeld ?_ ?_
       rotate_left
       · rintro w' ⟨s0, s1, s2, s3, s4⟩
         go_simp
         with_reducible rfl
       rotate_left
       · simp only [Act.put, List.setIfInBounds_toArray, List.set_cons_zero, List.set_cons_succ, i64_w, i32_w]
         rfl
       refine pure_ (i := 7) (N := some 44) (v := ?_) (a' := ?_) #[true, true, true, true, true, true, true, true, false, false, false, false, false] rfl rfl (any_of HT_.out (by kernel_rfl)) (fun _ _ _ h => h) (Or.inl ⟨by rfl, ?_⟩) ?_ ?_
       rotate_left
       · intro w'
         go_simp
         with_reducible rfl
       rotate_left
       · simp only [Act.put, List.setIfInBounds_toArray, List.set_cons_zero, List.set_cons_succ, i64_w, i32_w]
         rfl
       refine take_ (i := 8) (N := some 45) (v := ?_) (a' := ?_) #[true, true, true, true, true, true, true, true, true, false, false, false, false] rfl rfl (take_ofW HT_.out HW_.out (by kernel_rfl)) (fun _ _ _ h => h) (Or.inl ⟨by rfl, ?_⟩) hHeld ?_ ?_
       rotate_left
       · rintro w' ⟨s0, s1, s2, s3, s4⟩
         go_simp
         with_reducible rfl
       rotate_left
       · simp only [Act.put, List.setIfInBounds_toArray, List.set_cons_zero, List.set_cons_succ, i64_w, i32_w]
         rfl
       refine take_ (i := 9) (N := some 46) (v := ?_) (a' := ?_) #[true, true, true, true, true, true, true, true, true, true, false, false, false] rfl rfl (take_ofW HT_.out HW_.out (by kernel_rfl)) (fun _ _ _ h => h) (Or.inl ⟨by rfl, ?_⟩) hHeld ?_ ?_
       rotate_left
       · rintro w' ⟨s0, s1, s2, s3, s4⟩
         go_simp
         with_reducible rfl
       rotate_left
       · simp only [Act.put, List.setIfInBounds_toArray, List.set_cons_zero, List.set_cons_succ, i64_w, i32_w]
         rfl
       refine one_ (i := 10) (N := some 47) #[true, true, true, true, true, true, true, true, true, true, true, false, false] rfl rfl (one_of HT_.out (by kernel_rfl)) (by decide) (fun K hK => ?_)
       refine goes_ Tryz.func62 (by kernel_rfl) rfl #[.agg #[.int .u8 ((rd_T59 (rd_L4 l0 x7_2) x9_3).f0), .string ((rd_T59 (rd_L4 l0 x7_2) x9_3).f1)], .agg #[.slice Ao7 t258.length co7, .string t261]] (by rfl) rfl rfl gl ?_
       with_reducible refine (tithebarnref14_allows.calls k3 ((rd_T59 (rd_L4 l0 x7_2) x9_3).f0) ((rd_T59 (rd_L4 l0 x7_2) x9_3).f1) _ _ t258 t261 t268 _ ?side1 ?side2 A19.out).mono ?_
       (case side1 => exact pC (Kd.R_reads' HO_264000.out).2.2)
       (case side2 => exact (Kd.R_reads' HO_264000.out).2.1)
       rintro e w21 ⟨rfl, hb⟩
       refine ⟨_, rfl, ?_⟩
       replace HO_264000 := bR HO_264000 hb
       replace BK263 := Aside0.mk (blk_below (g := gb263) (o := .cells #[.slice Ao7 t258.length co7, .string t261] 30 (0, 0)) tk hb)
       replace HB := Aside0.mk (below_step tb hb)
       (try clear hb)
       (try clear hb2)
       (try clear hk)
       (try clear hi)
       refine hK.out _ _ ⟨(blk_cell BK263.out 0).trans rfl, (blk_cell BK263.out 1).trans rfl, ((HB.out.cell (World.block_lt_of_cell? w _ hw266_0)).trans hw266_0), ((HB.out.cell (World.block_lt_of_cell? w _ hw267_0)).trans hw267_0), ((HB.out.cell (World.block_lt_of_cell? w _ hw267_1)).trans hw267_1)⟩ (fun hHeld => ?_)
       clear hK K
       refine norm_ (a' := ?_) ?_ ?_
       rotate_left
       · show Act.put _ (some 47) _ = _
         simp only [Act.put, List.setIfInBounds_toArray, List.set_cons_zero, List.set_cons_succ, i64_w, i32_w]
         rfl
       refine pure_ (i := 11) (N := some 48) (v := ?_) (a' := ?_) #[true, true, true, true, true, true, true, true, true, true, true, true, false] rfl rfl (any_of HT_.out (by kernel_rfl)) (fun _ _ _ h => h) (Or.inl ⟨by rfl, ?_⟩) ?_ ?_
       rotate_left
       · intro w'
         go_simp
         with_reducible rfl
       rotate_left
       · simp only [Act.put, List.setIfInBounds_toArray, List.set_cons_zero, List.set_cons_succ, i64_w, i32_w]
         rfl
       refine pure_ (i := 12) (N := some 8) (v := ?_) (a' := ?_) #[true, true, true, true, true, true, true, true, true, true, true, true, true] rfl rfl (any_of HT_.out (by kernel_rfl)) (fun _ _ _ h => h) (Or.inl ⟨by rfl, ?_⟩) ?_ ?_
       rotate_left
       · intro w'
         go_simp
         with_reducible rfl
       rotate_left
       · simp only [Act.put, List.setIfInBounds_toArray, List.set_cons_zero, List.set_cons_succ, i64_w, i32_w]
         rfl
       refine done_ (done_of HT_.out (by kernel_rfl)) ?_
       try go_wp2
       go_roundg k3
       case measure => have := HJ3.out; have := HK2.out; have := HK3.out; omega
       case rel => exact ⟨(t268), (wrap64 (x9_3 + 1)), rf, rf, H', ⟨by have := HJ3.out; have := HK2.out; have := HK3.out; omega⟩, ⟨pR HO_264000.out⟩, ⟨by (with_reducible repeat (first | refine blk_drewN ?_ _ | refine blk_drew ?_ | refine blk_alloc ?_ _)); exact BK263.out⟩, ⟨tb⟩⟩
end Go.Proofs.YtnbmdecehlljcaaGreatDoor.PRq
