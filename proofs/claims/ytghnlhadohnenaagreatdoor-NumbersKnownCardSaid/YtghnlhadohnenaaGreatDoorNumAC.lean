/- Numbers' works: the walk. -/
import Derived.Test.YtghnlhadohnenaaGreatDoorNumAB
namespace Go.Proofs.YtghnlhadohnenaaGreatDoor
set_option exponentiation.threshold 3000
open Go.Shelf Go.RowKit Go.Proofs.YtghnlhadohnenaaGreatDoorW.PrintWords Go.Proofs.YtghnlhadohnenaaGreatDoorW.PrintLast Go.Proofs.YtghnlhadohnenaaGreatDoorW.PrintMore
set_option linter.unusedVariables false
set_option linter.unusedSimpArgs false
theorem cmp_nan {x r : Nat} (h1 : nanB x = false) (h2 : nanB r = true) : cmpK x r = -1 := by
  unfold cmpK
  rw [key_nan h2]
  have := key_lt h1
  rcases cmpI_cases (key x) 9223372036854775808 with ⟨_, h⟩ | ⟨h, _⟩ | ⟨h, _⟩
  · exact h
  · omega
  · omega
theorem least_of {r : Nat} (h : nanB r = true) : firstL cmpK 9221120237041090561 [4611686018427387904, r, 4607182418800017408] = 4607182418800017408 := by
  have h1 : cmpK r 4611686018427387904 = 1 := by rw [cmpK_turn, cmp_nan (by decide) h]; rfl
  unfold firstL
  simp only [List.foldl]
  have e1 : pick cmpK 4611686018427387904 r = 4611686018427387904 := by unfold pick; rw [h1]; rfl
  rw [e1]
  decide
theorem row_new (W : World) (l : List Nat) (T : TypeId) : RowF (W.alloc (.cells (l.map (Value.float .f64)).toArray T)) (some ⟨W.heap.size, 0, none⟩) l := by
  intro h
  refine ⟨_, rfl, fun j hj => ?_⟩
  rw [show (⟨W.heap.size, 0, none⟩ : Addr).add j = ⟨W.heap.size, 0 + j, none⟩ by unfold Addr.add; split <;> simp_all, World.cell?_alloc_new, Nat.zero_add]
  simp [List.getElem?_eq_getElem hj]
theorem at_least (w : World) {r : Nat} (hr : r < 18446744073709551616) (h : nanB r = true) : ∀ W, Below w.heap.size w W → Calls Tryz.prog 26 #[.slice (some ⟨W.heap.size, 0, none⟩) 3 3] (W.alloc (.cells #[.float .f64 4611686018427387904, .float .f64 r, .float .f64 4607182418800017408] 25)) fun e w' => e = .returned (.float .f64 4607182418800017408) ∧ Below w.heap.size w w' := by
  intro W hb
  have hl : allW [4611686018427387904, r, 4607182418800017408] := fun x hx => by
    simp only [List.mem_cons, List.mem_nil_iff, or_false] at hx
    rcases hx with hx | hx | hx <;> omega
  have := Least_any [4611686018427387904, r, 4607182418800017408] hl (by simp) (some ⟨W.heap.size, 0, none⟩) 3 (by simp) _ (row_new W _ 25)
  rw [least_of h] at this
  exact this.mono fun e w' ⟨h1, h2⟩ => ⟨h1, by rw [h2]; exact hb.alloc hb.size _⟩
set_option maxHeartbeats 4000000 in
set_option maxRecDepth 100000 in
theorem works_any (w : World) (hT : NTabs w) : Calls Tryz.prog 12 #[] w fun e w' => e = .returned (.bool true) ∧ Below w.heap.size w w' := by
  obtain ⟨r3, hr1, hr2, hop2⟩ := nan_draw .quo (by simp) 0 0 zero_quo w
  have hop1 : ∀ t w, (binOp .quo t (.float .f64 4607182418800017408) (.float .f64 0)).run Tryz.prog w = .ok (.float .f64 topR) w := fun t w => run_float_arith w .quo t .f64 _ _ _ (one_quo false)
  have hop3 : ∀ t w, (binOp .quo t (.float .f64 13830554455654793216) (.float .f64 topR)).run Tryz.prog w = .ok (.float .f64 9223372036854775808) w := fun t w => run_float_arith w .quo t .f64 _ _ _ (by decide +kernel)
  have hop4 : ∀ t w, (binOp .quo t (.float .f64 1) (.float .f64 4611686018427387904)).run Tryz.prog w = .ok (.float .f64 0) w := fun t w => run_float_arith w .quo t .f64 _ _ _ (by decide +kernel)
  have hneg : ∀ w, (Op.unary .neg (.float .f64 topR)).run Tryz.prog w = .ok (.float .f64 18442240474082181120) w := fun w => run_neg_float topR (by decide) w
  have HP1 := Aside0.mk (at_parse hT ⟨#[49, 112, 45, 49, 48, 55, 52]⟩ (by decide) 1 0 (fun r f h => parse_one h))
  have HP2 := Aside0.mk (at_parse hT ⟨#[48, 49]⟩ (by decide) 0 210 (fun r f h => parse_01 h))
  have HP3 := Aside0.mk (at_parse hT ⟨#[50, 112, 51]⟩ (by decide) 0 210 (fun r f h => parse_2p3 h))
  have HD := Aside0.mk (at_do (w := w) (op := 47) (a := 4607182418800017408) (b := 9223372036854775808) (r := 18442240474082181120) (o := .quo) (by decide) (by decide +kernel))
  have HR1 := Aside0.mk (at_print hT (x := 4622945017495814144) (by omega) (l := [49, 50]) (by decide +kernel))
  have HR2 := Aside0.mk (at_print hT (x := 13826050856027422720) (by omega) (l := [45, 49, 112, 45, 49]) (by decide +kernel))
  have HR3 := Aside0.mk (at_print hT (x := 4884153795883302912) (by omega) (l := [51, 112, 54, 48]) (by decide +kernel))
  have HR4 := Aside0.mk (at_print hT (x := 4599676419421066581) (by omega) (l := [54, 48, 48, 52, 55, 57, 57, 53, 48, 51, 49, 54, 48, 54, 54, 49, 112, 45, 53, 52]) (by decide +kernel))
  have HC1 := Aside0.mk (at_cmp (w := w) (x := 9223372036854775808) (y := 0) (by omega) (by omega) (c := -1) (by decide +kernel))
  have HDN1 := Aside0.mk (at_down (w := w) (x := 9223372036854775808) (r := 9223372036854775808) (by omega) (by decide +kernel) (by decide +kernel))
  have HS1 := Aside0.mk (at_same (w := w) (x := 9223372036854775808) (y := 9223372036854775808) (by omega) (by omega) (c := true) (by decide +kernel))
  have HC2 := Aside0.mk (at_cmp (w := w) (x := topR) (y := r3) (by decide) hr1 (c := -1) (cmp_nan (by decide) hr2))
  have HC3 := Aside0.mk (at_cmp (w := w) (x := r3) (y := r3) hr1 hr1 (c := 0) (cmpK_self r3))
  have HDN2 := Aside0.mk (at_down (w := w) (x := 13832806255468478464) (r := 13835058055282163712) (by omega) (by decide +kernel) (by decide +kernel))
  have HS2 := Aside0.mk (at_same (w := w) (x := 4607182418800017408) (y := 4607182418800017408) (by omega) (by omega) (c := true) (by decide +kernel))
  have HL := Aside0.mk (at_least w hr1 hr2)
  have HB : Aside0 (Below w.heap.size w w.drew) := Aside0.mk (Below.refl _ _).drew
  have g1 : (FloatKind.f64.format.order 1 0 == some .gt) = true := by decide +kernel
  have g2 : (FloatKind.f64.format.order 0 0 == some .eq) = true := by decide +kernel
  have g3 : (FloatKind.f64.format.order 18442240474082181120 18442240474082181120 == some .eq) = true := by decide +kernel
  have g4 : (FloatKind.f64.format.order 13835058055282163712 13835058055282163712 == some .eq) = true := by decide +kernel
  simp only [At] at HP1 HP2 HP3 HD HR1 HR2 HR3 HR4 HC1 HDN1 HS1 HC2 HC3 HDN2 HS2
  clear hr2 hT
  go_enter Tryz.func12, Tryz.ntmps12
  go_wp2_with (first | simp only [hop1] | simp only [hop2] | simp only [hop3] | simp only [hop4] | simp only [hneg] | (go_at_call 14; (with_reducible (first | refine (HP1.out _ HB.out).mono ?_ | refine (HP2.out _ HB.out).mono ?_ | refine (HP3.out _ HB.out).mono ?_)); rintro e w1 ⟨rfl, hb⟩; have HB := Aside0.mk hb; clear hb) | (go_at_call 24; (with_reducible refine (HD.out _ HB.out).mono ?_); rintro e w1 ⟨rfl, hb⟩; have HB := Aside0.mk hb; clear hb) | (go_at_call 13; (with_reducible (first | refine (HR1.out _ HB.out).mono ?_ | refine (HR2.out _ HB.out).mono ?_ | refine (HR3.out _ HB.out).mono ?_ | refine (HR4.out _ HB.out).mono ?_)); rintro e w1 ⟨rfl, hb⟩; have HB := Aside0.mk hb; clear hb) | (go_at_call 22; (with_reducible (first | refine (HC1.out _ HB.out).mono ?_ | refine (HC2.out _ HB.out).mono ?_ | refine (HC3.out _ HB.out).mono ?_)); rintro e w1 ⟨rfl, hb⟩; have HB := Aside0.mk hb; clear hb) | (go_at_call 19; (with_reducible (first | refine (HDN1.out _ HB.out).mono ?_ | refine (HDN2.out _ HB.out).mono ?_)); rintro e w1 ⟨rfl, hb⟩; have HB := Aside0.mk hb; clear hb) | (go_at_call 20; (with_reducible (first | refine (HS1.out _ HB.out).mono ?_ | refine (HS2.out _ HB.out).mono ?_)); rintro e w1 ⟨rfl, hb⟩; have HB := Aside0.mk hb; clear hb) | (go_at_call 26; (with_reducible refine (HL.out _ HB.out).mono ?_); rintro e w1 ⟨rfl, hb⟩; have HB := Aside0.mk hb; clear hb))
  go_ret
  exact ⟨rfl, HB.out⟩
end Go.Proofs.YtghnlhadohnenaaGreatDoor
