-- Laid by a program of this session (wip/tools/pgiven.py) out of the seat's translation. Lean checks it.
import Derived.Test.YtnbmdecehlljcaaGreatDoorPVerx0
import Derived.Test.YtnbmdecehlljcaaGreatDoorPVerx7
import Derived.Test.YtnbmdecehlljcaaGreatDoorPVerx8
namespace Go.Proofs.YtnbmdecehlljcaaGreatDoor.PVer
open Go.RowKit Go.Proofs.YtnbmdecehlljcaaGreatDoorW.PrintWords Go.Proofs.YtnbmdecehlljcaaGreatDoorW.PrintLast Go.Proofs.YtnbmdecehlljcaaGreatDoorW.PrintMore
attribute [local go_sem] max2_int min2_int max_two min_two max_three min_three max_four min_four   -- for this text's walks alone
set_option linter.unusedVariables false
set_option linter.unusedSimpArgs false

attribute [local go_sem] isSome_setCellV
/-! ### tithebarnlaw13_VersionParse: function 16 -/
def tithebarnlaw13_VersionParse.f (k : Nat) (a0 : ByteArray) : Option (Bool) := if (a0.size : Int) > 500 then ((tithebarnlaw13_works.f).bind fun t138 => (some t138)) else ((version_Parse.f a0).bind fun bt139 => ((tithebarnref13_Parse.f k a0).bind fun bt145 => (if bt139.2.2 = bt145.2.2 then ((tithebarnkit_SameInts.f k bt139.1 bt145.1).bind fun t151 => (if t151 = true then (if bt139.2.1.toList = bt145.2.1.toList then ((tithebarnlaw13_works.f).bind fun t152 => (some t152)) else (some false)) else (some false))) else (some false))))
theorem tithebarnlaw13_VersionParse.mono : ∀ a0 k, LeO (tithebarnlaw13_VersionParse.f k a0) (tithebarnlaw13_VersionParse.f (k + 1) a0) := by
  intro a0 k
  unfold tithebarnlaw13_VersionParse.f
  repeat' first
      | (with_reducible exact tithebarnkit_SameInts.mono _ _ _)
      | (with_reducible exact tithebarnref13_Parse.mono _ _)
      | (with_reducible exact LeO.refl _)
      | (with_reducible exact LeO.none _)
      | (with_reducible refine LeO.ite ?_ ?_)
      | (with_reducible refine LeO.bind ?_ (fun _ => ?_))
      | exact tithebarnkit_SameInts.mono _ _ _
      | exact tithebarnref13_Parse.mono _ _
      | exact LeO.none _
      | refine LeO.ite ?_ ?_
      | refine LeO.bind ?_ (fun _ => ?_)
set_option maxHeartbeats 8000000 in
set_option maxRecDepth 100000 in
theorem tithebarnlaw13_VersionParse.calls (k : Nat) (a0 : ByteArray) (r : Bool) (w : World) (hT : VTabs w) (h : tithebarnlaw13_VersionParse.f k a0 = some r) (hr : r = true) :
    Calls Tryz.prog 16 #[.string a0] w fun e w' => e = .returned (.bool r) ∧ Below w.heap.size w w' := by
  have HRT := Aside0.mk hr
  clear hr
  have hu24 := Tryz.underlying24
  have hu30 := Tryz.underlying30
  have HB := Aside0.mk (Below.refl w.heap.size w)
  have HTabs := Aside0.mk hT
  clear hT
  have H : (if (a0.size : Int) > 500 then ((tithebarnlaw13_works.f).bind fun t138 => (some t138)) else ((version_Parse.f a0).bind fun bt139 => ((tithebarnref13_Parse.f k a0).bind fun bt145 => (if bt139.2.2 = bt145.2.2 then ((tithebarnkit_SameInts.f k bt139.1 bt145.1).bind fun t151 => (if t151 = true then (if bt139.2.1.toList = bt145.2.1.toList then ((tithebarnlaw13_works.f).bind fun t152 => (some t152)) else (some false)) else (some false))) else (some false))))) = some r := h
  clear h
  by_cases c2 : (a0.size : Int) > 500
  · rw [if_pos c2] at H
    have c2b0 : decide (500 < (a0.size : Int)) = true := decide_eq_true c2
    have c2b1 : decide (500 < a0.size) = true := decide_eq_true (by omega)
    clear c2
    replace H := Option.bind_eq_some_iff.mp H
    obtain ⟨t138, A30, H⟩ := H
    replace H : (some t138) = some r := H
    have A3 := Aside0.mk A30
    clear A30
    obtain rfl := Option.some.inj H
    go_enter Tryz.func16, Tryz.ntmps16
    go_wp2_with (first | ((with_reducible refine gate_callee (f := 11) rfl ?_); refine goesL_ (some 10) rfl rfl Tryz.func11 (by kernel_rfl) rfl #[] rfl (by (try simp only [List.map_toArray, List.map_cons, List.map_nil]); first | done | rfl | (simp only [List.length_drop, List.length_take]; rfl)) ?_; (with_reducible refine (tithebarnlaw13_works.calls  t138 _ ?side1 A3.out).mono ?_); (case side1 => exact VTabs.below HTabs.out tb); rintro e w4 ⟨rfl, hb⟩; refine ⟨_, rfl, ?_⟩; have n0_ := Aside0.mk (below_step tb hb); clear HB; have HB := n0_; clear n0_; (try clear hb); (try clear hb2); (try clear hk); (try clear hi)))
    go_ret
    exact ⟨by first | rfl | (simp [errW_none, errW_some] <;> rfl) | (simp [*, errW_none, errW_some] <;> rfl), tb⟩
  rw [if_neg c2] at H
  have c2b0 : decide (500 < (a0.size : Int)) = false := decide_eq_false c2
  have c2b1 : decide (500 < a0.size) = false := decide_eq_false (by omega)
  clear c2
  replace H := Option.bind_eq_some_iff.mp H
  obtain ⟨⟨t139, t142, t143⟩, A50, H⟩ := H
  replace H : ((tithebarnref13_Parse.f k a0).bind fun bt145 => (if t143 = bt145.2.2 then ((tithebarnkit_SameInts.f k t139 bt145.1).bind fun t151 => (if t151 = true then (if t142.toList = bt145.2.1.toList then ((tithebarnlaw13_works.f).bind fun t152 => (some t152)) else (some false)) else (some false))) else (some false))) = some r := H
  have A5 := Aside0.mk A50
  clear A50
  replace H := Option.bind_eq_some_iff.mp H
  obtain ⟨⟨t145, t148, t149⟩, A60, H⟩ := H
  replace H : (if t143 = t149 then ((tithebarnkit_SameInts.f k t139 t145).bind fun t151 => (if t151 = true then (if t142.toList = t148.toList then ((tithebarnlaw13_works.f).bind fun t152 => (some t152)) else (some false)) else (some false))) else (some false)) = some r := H
  have A6 := Aside0.mk A60
  clear A60
  by_cases c7 : t143 = t149
  rotate_left
  · rw [if_neg c7] at H
    have c7b0 : (t143 == t149) = false := beq_eq_false_iff_ne.mpr c7
    have c7b1 : (t143 != t149) = true := bne_iff_ne.mpr c7
    exact absurd ((Option.some.inj H).trans HRT.out) (by decide)
  rw [if_pos c7] at H
  have c7b0 : (t143 == t149) = true := beq_iff_eq.mpr c7
  have c7b1 : (t143 != t149) = false := bne_eq_false_iff_eq.mpr c7
  clear c7
  replace H := Option.bind_eq_some_iff.mp H
  obtain ⟨t151, A80, H⟩ := H
  replace H : (if t151 = true then (if t142.toList = t148.toList then ((tithebarnlaw13_works.f).bind fun t152 => (some t152)) else (some false)) else (some false)) = some r := H
  have A8 := Aside0.mk A80
  clear A80
  by_cases c9 : t151 = true
  rotate_left
  · replace c9 := Bool.eq_false_iff.mpr c9
    subst c9
    have H1 : (some false) = some r := by rw [if_neg (show ¬ (false = true) by decide)] at H; exact H
    clear H
    have H := H1
    clear H1
    exact absurd ((Option.some.inj H).trans HRT.out) (by decide)
  subst c9
  have H1 : (if t142.toList = t148.toList then ((tithebarnlaw13_works.f).bind fun t152 => (some t152)) else (some false)) = some r := by rw [if_pos rfl] at H; exact H
  clear H
  have H := H1
  clear H1
  by_cases c10 : t142.toList = t148.toList
  rotate_left
  · rw [if_neg c10] at H
    have c10b0 : (t142.toList == t148.toList) = false := beq_eq_false_iff_ne.mpr c10
    have c10b1 : (t142.toList != t148.toList) = true := bne_iff_ne.mpr c10
    exact absurd ((Option.some.inj H).trans HRT.out) (by decide)
  rw [if_pos c10] at H
  have c10b0 : (t142.toList == t148.toList) = true := beq_iff_eq.mpr c10
  have c10b1 : (t142.toList != t148.toList) = false := bne_eq_false_iff_eq.mpr c10
  clear c10
  replace H := Option.bind_eq_some_iff.mp H
  obtain ⟨t152, A110, H⟩ := H
  replace H : (some t152) = some r := H
  have A11 := Aside0.mk A110
  clear A110
  obtain rfl := Option.some.inj H
  go_enter Tryz.func16, Tryz.ntmps16
  go_wp2_with (first | ((with_reducible refine gate_callee (f := 35) rfl ?_); refine goesL_ (some 13) rfl rfl Tryz.func35 (by kernel_rfl) rfl #[.string a0] rfl (by (try simp only [List.map_toArray, List.map_cons, List.map_nil]); first | done | rfl | (simp only [List.length_drop, List.length_take]; rfl)) ?_; (with_reducible refine (version_Parse.calls a0 t139 t142 t143 _ ?side1 A5.out).mono ?_); (case side1 => exact VTabs.below HTabs.out tb); rintro e w12 ⟨v140, rfl, ho0, hb⟩; refine ⟨_, rfl, ?_⟩; have n0_ := Aside0.mk (Kd.R_lower ho0 (below_size tb)); have n1_ := Aside0.mk (below_step tb hb); clear HB; have HO141 := n0_; have HB := n1_; clear n0_ n1_; (try clear hb); (try clear hb2); (try clear hk); (try clear hi); (try clear ho0)) | ((with_reducible refine gate_dst (N := 3) rfl ?_); refine box_event ?hg (N := 3) ?hd (cs := #[.slice none 0 0, .string (⟨#[]⟩ : ByteArray)]) (t := 24) ?hr ?_; (case hd => rfl); (case hg => rfl); (case hr => first | (go_simp; done) | (go_simp; rfl)); intro gb144 hg w13 hbox hb; have n0_ := Aside0.mk (Kd.R_below (by (with_reducible repeat (first | apply Kd.R_alloc | apply Kd.R_drewN | apply Kd.R_drew)); exact HO141.out) hb); have n1_ := Aside0.mk (below_step tb hb); have n2_ := Aside0.mk (hbox); have n3_ := Aside0.mk ((by rw [hg]; exact (below_size tb) : w.heap.size ≤ gb144)); have n4_ := Aside0.mk ((by rw [hg]; exact (below_size tb) : w.heap.size ≤ gb144)); clear HO141; clear HB; have HO141 := n0_; have HB := n1_; have BK144 := n2_; have GW144 := n3_; have GE144 := n4_; clear n0_ n1_ n2_ n3_ n4_; clear hb hbox hg; obtain ⟨Ao14, co14, eo14⟩ := Kd.R_slice HO141.out; subst eo14; have hcz15_0 : w13.cell? ⟨gb144, 0, none⟩ = some (.slice none 0 0) := (blk_cell BK144.out 0).trans rfl; have hcz15_1 : w13.cell? ⟨gb144, 1, none⟩ = some (.string (⟨#[]⟩ : ByteArray)) := (blk_cell BK144.out 1).trans rfl; have hfz15_0 := blk_frozen BK144.out 0; have hfz15_1 := blk_frozen BK144.out 1) | ((with_reducible refine gate_callee (f := 15) rfl ?_); refine goesL_ (some 18) rfl rfl Tryz.func15 (by kernel_rfl) rfl #[.string a0] rfl (by (try simp only [List.map_toArray, List.map_cons, List.map_nil]); first | done | rfl | (simp only [List.length_drop, List.length_take]; rfl)) ?_; (with_reducible refine (tithebarnref13_Parse.calls k a0 t145 t148 t149 _ A6.out).mono ?_); rintro e w16 ⟨v146, rfl, ho0, hb⟩; refine ⟨_, rfl, ?_⟩; have n0_ := Aside0.mk (Kd.R_elder' (by (with_reducible repeat (first | apply Kd.R_alloc | apply Kd.R_drewN | apply Kd.R_drew)); exact (Kd.R_mono (Kd.R_far (p := ⟨gb144, 1, none⟩) (Kd.R_far (p := ⟨gb144, 0, none⟩) (Kd.R_types HO141.out BK144.out (by decide)) (fun _ hk => hk.2) (.slice Ao14 t139.length co14)) (fun _ hk => hk.2) (.string t142)) (fun _ h_ => h_.1))) (Kd.R_base ho0) hb); have n1_ := Aside0.mk (Kd.R_lower (Kd.R_new' ho0 (Kd.R_lt (by (with_reducible repeat (first | apply Kd.R_alloc | apply Kd.R_drewN | apply Kd.R_drew)); exact (Kd.R_mono (Kd.R_far (p := ⟨gb144, 1, none⟩) (Kd.R_far (p := ⟨gb144, 0, none⟩) (Kd.R_types HO141.out BK144.out (by decide)) (fun _ hk => hk.2) (.slice Ao14 t139.length co14)) (fun _ hk => hk.2) (.string t142)) (fun _ h_ => h_.1))))) (below_size tb)); have n2_ := Aside0.mk (blk_below (g := gb144) (o := .cells #[.slice Ao14 t139.length co14, .string t142] 24 (0, 0)) (by (with_reducible repeat (first | refine blk_drewN ?_ _ | refine blk_drew ?_ | refine blk_alloc ?_ _)); refine blk_put (cs := #[.slice Ao14 t139.length co14, .string (⟨#[]⟩ : ByteArray)]) ?_ 1 _ rfl; (with_reducible repeat (first | refine blk_drewN ?_ _ | refine blk_drew ?_ | refine blk_alloc ?_ _)); refine blk_put (cs := #[.slice none 0 0, .string (⟨#[]⟩ : ByteArray)]) ?_ 0 _ rfl; (with_reducible repeat (first | refine blk_drewN ?_ _ | refine blk_drew ?_ | refine blk_alloc ?_ _)); exact BK144.out) hb); have n3_ := Aside0.mk (below_step tb hb); clear HO141; clear BK144; clear HB; have HO141 := n0_; have HO147 := n1_; have BK144 := n2_; have HB := n3_; clear n0_ n1_ n2_ n3_; (try clear hb); (try clear hb2); (try clear hk); (try clear hi); (try clear ho0)) | ((with_reducible refine gate_dst (N := 5) rfl ?_); refine box_event ?hg (N := 5) ?hd (cs := #[.slice none 0 0, .string (⟨#[]⟩ : ByteArray)]) (t := 30) ?hr ?_; (case hd => rfl); (case hg => rfl); (case hr => first | (go_simp; done) | (go_simp; rfl)); intro gb150 hg w17 hbox hb; have n0_ := Aside0.mk (Kd.R_below (by (with_reducible repeat (first | apply Kd.R_alloc | apply Kd.R_drewN | apply Kd.R_drew)); exact HO141.out) hb); have n1_ := Aside0.mk (Kd.R_below (by (with_reducible repeat (first | apply Kd.R_alloc | apply Kd.R_drewN | apply Kd.R_drew)); exact HO147.out) hb); have n2_ := Aside0.mk (blk_below (g := gb144) (o := .cells #[.slice Ao14 t139.length co14, .string t142] 24 (0, 0)) tk hb); have n3_ := Aside0.mk (below_step tb hb); have n4_ := Aside0.mk (hbox); have n5_ := Aside0.mk ((by rw [hg]; exact (below_size tb) : w.heap.size ≤ gb150)); have n6_ := Aside0.mk ((by rw [hg]; exact (below_size tb) : w.heap.size ≤ gb150)); have n7_ := Aside0.mk ((by rw [hg]; exact Nat.ne_of_lt (blk_lt (g := gb144) (o := .cells #[.slice Ao14 t139.length co14, .string t142] 24 (0, 0)) tk) : gb144 ≠ gb150)); have n8_ := Aside0.mk ((by rw [hg]; exact Nat.ne_of_gt (blk_lt (g := gb144) (o := .cells #[.slice Ao14 t139.length co14, .string t142] 24 (0, 0)) tk) : gb150 ≠ gb144)); clear HO141; clear HO147; clear BK144; clear HB; have HO141 := n0_; have HO147 := n1_; have BK144 := n2_; have HB := n3_; have BK150 := n4_; have GW150 := n5_; have GE150 := n6_; have NB144_150 := n7_; have NB150_144 := n8_; clear n0_ n1_ n2_ n3_ n4_ n5_ n6_ n7_ n8_; clear hb hbox hg; obtain ⟨Ao18, co18, eo18⟩ := Kd.R_slice HO147.out; subst eo18; have hnb19 := NB150_144.out; have hnc19 := NB144_150.out; have hcz20_0 : w17.cell? ⟨gb150, 0, none⟩ = some (.slice none 0 0) := (blk_cell BK150.out 0).trans rfl; have hcz20_1 : w17.cell? ⟨gb150, 1, none⟩ = some (.string (⟨#[]⟩ : ByteArray)) := (blk_cell BK150.out 1).trans rfl; have hfz20_0 := blk_frozen BK150.out 0; have hfz20_1 := blk_frozen BK150.out 1; have hcz21_0 : w17.cell? ⟨gb144, 0, none⟩ = some (.slice Ao14 t139.length co14) := (blk_cell BK144.out 0).trans rfl; have hcz21_1 : w17.cell? ⟨gb144, 1, none⟩ = some (.string t142) := (blk_cell BK144.out 1).trans rfl; have hfz21_0 := blk_frozen BK144.out 0; have hfz21_1 := blk_frozen BK144.out 1) | (go_at_call 37; (with_reducible refine (tithebarnkit_SameInts.calls k _ _ t139 _ _ t145 true _ ?side1 ?side2 ?side3 ?side4 A8.out).mono ?_); (case side1 => refine (Kd.R_reads' (e := 3) (base := w.heap.size) (ok := fun k_ => (True ∧ some k_ ≠ (.slice Ao18 t145.length co18 : Value).ownBlock)) (n := t139.length) (c := co14) ?_).2.2; exact (by (with_reducible repeat (first | apply Kd.R_alloc | apply Kd.R_drewN | apply Kd.R_drew)); exact (Kd.R_mono (Kd.R_far (p := ⟨gb150, 1, none⟩) (Kd.R_far (p := ⟨gb150, 0, none⟩) (Kd.R_types HO141.out BK150.out (by decide)) (fun _ hk => hk.2) (.slice Ao18 t145.length co18)) (fun _ hk => hk.2) (.string t148)) (fun _ h_ => h_.1)))); (case side2 => exact (Kd.R_reads' HO141.out).2.1); (case side3 => refine (Kd.R_reads' (e := 3) (base := w.heap.size) (ok := fun k_ => (True ∧ some k_ ≠ (.slice Ao14 t139.length co14 : Value).ownBlock)) (n := t145.length) (c := co18) ?_).2.2; exact (by (with_reducible repeat (first | apply Kd.R_alloc | apply Kd.R_drewN | apply Kd.R_drew)); exact (Kd.R_mono (Kd.R_far (p := ⟨gb150, 1, none⟩) (Kd.R_far (p := ⟨gb150, 0, none⟩) (Kd.R_types HO147.out BK150.out (by decide)) (fun _ hk => hk.2) (.slice Ao18 t145.length co18)) (fun _ hk => hk.2) (.string t148)) (fun _ h_ => h_.1)))); (case side4 => exact (Kd.R_reads' HO147.out).2.1); rintro e w' ⟨rfl, ⟨nd, rfl⟩⟩) | (go_at_call 11; (with_reducible refine (tithebarnlaw13_works.calls  t152 _ ?side1 A11.out).mono ?_); (case side1 => exact VTabs.below HTabs.out tb); rintro e w22 ⟨rfl, hb⟩; have n0_ := Aside0.mk (Kd.R_below (by (with_reducible repeat (first | apply Kd.R_alloc | apply Kd.R_drewN | apply Kd.R_drew)); exact (Kd.R_mono (Kd.R_far (p := ⟨gb150, 1, none⟩) (Kd.R_far (p := ⟨gb150, 0, none⟩) (Kd.R_types HO141.out BK150.out (by decide)) (fun _ hk => hk.2) (.slice Ao18 t145.length co18)) (fun _ hk => hk.2) (.string t148)) (fun _ h_ => h_.1))) hb); have n1_ := Aside0.mk (Kd.R_below (by (with_reducible repeat (first | apply Kd.R_alloc | apply Kd.R_drewN | apply Kd.R_drew)); exact (Kd.R_mono (Kd.R_far (p := ⟨gb150, 1, none⟩) (Kd.R_far (p := ⟨gb150, 0, none⟩) (Kd.R_types HO147.out BK150.out (by decide)) (fun _ hk => hk.2) (.slice Ao18 t145.length co18)) (fun _ hk => hk.2) (.string t148)) (fun _ h_ => h_.1))) hb); have n2_ := Aside0.mk (blk_below (g := gb144) (o := .cells #[.slice Ao14 t139.length co14, .string t142] 24 (0, 0)) (by (with_reducible repeat (first | refine blk_drewN ?_ _ | refine blk_drew ?_ | refine blk_alloc ?_ _)); refine blk_far ?_ NB144_150.out _; (with_reducible repeat (first | refine blk_drewN ?_ _ | refine blk_drew ?_ | refine blk_alloc ?_ _)); refine blk_far ?_ NB144_150.out _; (with_reducible repeat (first | refine blk_drewN ?_ _ | refine blk_drew ?_ | refine blk_alloc ?_ _)); exact BK144.out) hb); have n3_ := Aside0.mk (blk_below (g := gb150) (o := .cells #[.slice Ao18 t145.length co18, .string t148] 30 (0, 0)) (by (with_reducible repeat (first | refine blk_drewN ?_ _ | refine blk_drew ?_ | refine blk_alloc ?_ _)); refine blk_put (cs := #[.slice Ao18 t145.length co18, .string (⟨#[]⟩ : ByteArray)]) ?_ 1 _ rfl; (with_reducible repeat (first | refine blk_drewN ?_ _ | refine blk_drew ?_ | refine blk_alloc ?_ _)); refine blk_put (cs := #[.slice none 0 0, .string (⟨#[]⟩ : ByteArray)]) ?_ 0 _ rfl; (with_reducible repeat (first | refine blk_drewN ?_ _ | refine blk_drew ?_ | refine blk_alloc ?_ _)); exact BK150.out) hb); have n4_ := Aside0.mk (below_step tb hb); clear HO141; clear HO147; clear BK144; clear BK150; clear HB; have HO141 := n0_; have HO147 := n1_; have BK144 := n2_; have BK150 := n3_; have HB := n4_; clear n0_ n1_ n2_ n3_ n4_; (try clear hb); (try clear hb2); (try clear hk); (try clear hi)))
  go_ret
  exact ⟨by first | rfl | (simp [errW_none, errW_some] <;> rfl) | (simp [*, errW_none, errW_some] <;> rfl), tb⟩
end Go.Proofs.YtnbmdecehlljcaaGreatDoor.PVer
