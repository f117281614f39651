-- Laid by a program of this session (wip/tools/pgiven.py) out of the seat's translation. Lean checks it.
import Derived.Test.YtnbmdecehlljcaaGreatDoorRnW
import Derived.Test.YtnbmdecehlljcaaGreatDoorPRqx0
import Derived.Test.YtnbmdecehlljcaaGreatDoorPRqx10
import Derived.Test.YtnbmdecehlljcaaGreatDoorPRqx2
import Derived.Test.YtnbmdecehlljcaaGreatDoorPRqx13
import Derived.Test.YtnbmdecehlljcaaGreatDoorPRqx14
namespace Go.Proofs.YtnbmdecehlljcaaGreatDoor.PRq
open Go.RowKit Go.Proofs.YtnbmdecehlljcaaGreatDoorW.PrintWords Go.Proofs.YtnbmdecehlljcaaGreatDoorW.PrintLast Go.Proofs.YtnbmdecehlljcaaGreatDoorW.PrintMore
attribute [local go_sem] max2_int min2_int max_two min_two max_three min_three max_four min_four   -- for this text's walks alone
set_option linter.unusedVariables false
set_option linter.unusedSimpArgs false

attribute [local go_sem] isSome_setCellV
/-! ### tithebarnlaw14_RangesPrint: function 6 -/
def tithebarnlaw14_RangesPrint.l0 : Nat → List (List (S59)) → List (List (S59)) → Int → Option (Bool)
 | 0, _, _, _ => none
 | k + 1, x0, x3, x4 => if x4 < (x0.length : Int) then ((some (([] : List (S59)) : List (S59))).bind fun y221 => (if 0 ≤ x4 then (if y221.length + (rd_L4 x0 x4).length < 5864062014805 then (if x3.length < 5864062014805 then (tithebarnlaw14_RangesPrint.l0 k x0 (x3 ++ [(y221 ++ (rd_L4 x0 x4))]) (wrap64 (x4 + 1))) else (none)) else (none)) else (none))) else ((ranges_Print.f k x0).bind fun bt231 => ((tithebarnref14_Print.f k x0).bind fun bt233 => (if bt231.1.toList = bt233.1.toList then (if bt231.2 = bt233.2 then ((tithebarnkit_SameRange.f k x3 x0).bind fun t235 => (if t235 = true then ((tithebarnlaw14_works.f).bind fun t236 => (some t236)) else (some false))) else (some false)) else (some false))))
def tithebarnlaw14_RangesPrint.f (k : Nat) (l0 : List (List (S59))) : Option (Bool) := (tithebarnkit_SmallRange.f k l0 1000).bind fun t219 => (if t219 = true then (tithebarnlaw14_RangesPrint.l0 k l0 ([] : List (List (S59))) 0) else ((tithebarnlaw14_works.f).bind fun t220 => (some t220)))
theorem tithebarnlaw14_RangesPrint.mono_l : ∀ k, (∀ y0 y1 y2, LeO (tithebarnlaw14_RangesPrint.l0 k y0 y1 y2) (tithebarnlaw14_RangesPrint.l0 (k + 1) y0 y1 y2))
 | 0 => fun _ _ _ r h => by simp [tithebarnlaw14_RangesPrint.l0] at h
 | k + 1 => by
  have ih0 := tithebarnlaw14_RangesPrint.mono_l k
  · intro y0 y1 y2
    unfold tithebarnlaw14_RangesPrint.l0
    repeat' first
    | (with_reducible exact ih0 _ _ _)
    | (with_reducible exact ranges_Print.mono _ _)
    | (with_reducible exact tithebarnkit_SameRange.mono _ _ _)
    | (with_reducible exact tithebarnkit_SmallRange.mono _ _ _)
    | (with_reducible exact tithebarnref14_Print.mono _ _)
    | (with_reducible exact LeO.refl _)
    | (with_reducible exact LeO.none _)
    | (with_reducible refine LeO.ite ?_ ?_)
    | (with_reducible refine LeO.bind ?_ (fun _ => ?_))
    | exact ih0 _ _ _
    | exact ranges_Print.mono _ _
    | exact tithebarnkit_SameRange.mono _ _ _
    | exact tithebarnkit_SmallRange.mono _ _ _
    | exact tithebarnref14_Print.mono _ _
    | exact LeO.none _
    | refine LeO.ite ?_ ?_
    | refine LeO.bind ?_ (fun _ => ?_)
theorem tithebarnlaw14_RangesPrint.mono : ∀ a0 k, LeO (tithebarnlaw14_RangesPrint.f k a0) (tithebarnlaw14_RangesPrint.f (k + 1) a0) := by
 intro a0 k
 have ih0 := tithebarnlaw14_RangesPrint.mono_l k
 unfold tithebarnlaw14_RangesPrint.f
 repeat' first
  | (with_reducible exact ih0 _ _ _)
  | (with_reducible exact ranges_Print.mono _ _)
  | (with_reducible exact tithebarnkit_SameRange.mono _ _ _)
  | (with_reducible exact tithebarnkit_SmallRange.mono _ _ _)
  | (with_reducible exact tithebarnref14_Print.mono _ _)
  | (with_reducible exact LeO.refl _)
  | (with_reducible exact LeO.none _)
  | (with_reducible refine LeO.ite ?_ ?_)
  | (with_reducible refine LeO.bind ?_ (fun _ => ?_))
  | exact ih0 _ _ _
  | exact ranges_Print.mono _ _
  | exact tithebarnkit_SameRange.mono _ _ _
  | exact tithebarnkit_SmallRange.mono _ _ _
  | exact tithebarnref14_Print.mono _ _
  | exact LeO.none _
  | refine LeO.ite ?_ ?_
  | refine LeO.bind ?_ (fun _ => ?_)
set_option maxHeartbeats 8000000 in
set_option maxRecDepth 100000 in
theorem tithebarnlaw14_RangesPrint.calls (k : Nat) (A0 : Option Addr) (c0 : Nat) (l0 : List (List (S59))) (r : Bool) (w : World) (hr0 : Kd.C (Kd.slice 59 k59) w A0 l0.length l0) (hc0 : l0.length ≤ c0) (hT : RTabs w) (h : tithebarnlaw14_RangesPrint.f k l0 = some r) :
 Calls Tryz.prog 6 #[.slice A0 l0.length c0] w fun e w' => e = .returned (.bool r) ∧ Below w.heap.size w w' := by
 have HR0 := Aside0.mk hr0
 have HC0 := Aside0.mk hc0
 clear hr0 hc0
 have HB := Aside0.mk (Below.refl w.heap.size w)
 have HTabs := Aside0.mk hT
 clear hT
 have H : ((tithebarnkit_SmallRange.f k l0 1000).bind fun t219 => (if t219 = true then (tithebarnlaw14_RangesPrint.l0 k l0 ([] : List (List (S59))) 0) else ((tithebarnlaw14_works.f).bind fun t220 => (some t220)))) = some r := h
 clear h
 obtain ⟨t219, A20, H⟩ := Option.bind_eq_some_iff.mp H
 have A2 := Aside0.mk A20
 clear A20
 by_cases c3 : t219 = true
 rotate_left
 · replace c3 := Bool.eq_false_iff.mpr c3
   subst c3
   rw [if_neg (show ¬ (false = true) by decide)] at H
   obtain ⟨t220, A310, H⟩ := Option.bind_eq_some_iff.mp H
   have A31 := Aside0.mk A310
   clear A310
   obtain rfl := Option.some.inj H
   go_enter Tryz.func6, Tryz.ntmps6
   go_wp2_with (first | ((with_reducible refine gate_callee (f := 25) rfl ?_); refine goesL_ (some 10) rfl rfl Tryz.func25 (by kernel_rfl) rfl #[.slice A0 l0.length c0, .int .i64 1000] rfl gl ?_; (with_reducible refine (tithebarnkit_SmallRange.calls k _ _ l0 1000 false _ ?side1 ?side2 A2.out).mono ?_); (case side1 => exact pC HR0.out); (case side2 => exact HC0.out); rintro e w' ⟨rfl, ⟨nd, rfl⟩⟩; refine ⟨_, rfl, ?_⟩) | ((with_reducible refine gate_callee (f := 21) rfl ?_); refine goesL_ (some 12) rfl rfl Tryz.func21 (by kernel_rfl) rfl #[] rfl gl ?_; (with_reducible refine (tithebarnlaw14_works.calls  t220 _ ?side1 A31.out).mono ?_); (case side1 => exact RTabs.below HTabs.out tb); rintro e w32 ⟨rfl, hb⟩; refine ⟨_, rfl, ?_⟩; replace HB := Aside0.mk (below_step tb hb); (try clear hb)))
   go_ret
   exact ⟨by first | rfl | (simp [errW_none, errW_some] <;> rfl) | (simp [*, errW_none, errW_some] <;> rfl), tb⟩

 subst c3
 rw [if_pos rfl] at H
 have H' := Aside0.mk H
 clear H
 go_enter Tryz.func6, Tryz.ntmps6
 go_wp2_with (first | ((with_reducible refine gate_callee (f := 25) rfl ?_); refine goesL_ (some 10) rfl rfl Tryz.func25 (by kernel_rfl) rfl #[.slice A0 l0.length c0, .int .i64 1000] rfl gl ?_; (with_reducible refine (tithebarnkit_SmallRange.calls k _ _ l0 1000 true _ ?side1 ?side2 A2.out).mono ?_); (case side1 => exact pC HR0.out); (case side2 => exact HC0.out); rintro e w' ⟨rfl, ⟨nd, rfl⟩⟩; refine ⟨_, rfl, ?_⟩))
 go_loopg [3, 4] k (fun kq v3 v4 w' => ∃ (x3_1 : List (List (S59))) (x4_1 : Int), v4 = .int .i64 x4_1 ∧ Aside0 (tithebarnlaw14_RangesPrint.l0 kq l0 x3_1 x4_1 = some r) ∧ Aside0 (kq ≤ k) ∧ Aside0 (Kd.S (Kd.slice 59 k59) 47 w' w.heap.size (fun _ => True) v3 x3_1) ∧ Aside0 (Below w.heap.size w w'))
 case atStart => exact ⟨(([] : List (List (S59)))), (0), rf, H', ⟨Nat.le_refl _⟩, ⟨by first | exact Kd.S_nil _ _ _ _ _ | exact Kd.N_nil _ _ _ _ _ | exact Kd.V_nil _ _ _ _ _ | exact Kd.Q_nil _ _ _ _ _ | exact Kd.R_nil _ _ _ _ _⟩, ⟨tb⟩⟩
 case round =>
  clear H'
  try clear c2
  try clear p2
  try clear c3
  obtain ⟨x3_1, x4_1, rfl, HA, HK1, HO_3, HB⟩ := hrel
  cases gk with
  | zero => exact absurd HA.out (by simp [tithebarnlaw14_RangesPrint.l0])
  | succ k1 =>
   have H := HA.out
   clear HA
   simp only [tithebarnlaw14_RangesPrint.l0] at H
   by_cases c4 : x4_1 < (l0.length : Int)
   · rw [if_pos c4] at H
     have c4b0 : decide (x4_1 < (l0.length : Int)) = true := decide_eq_true c4
     clear c4
     obtain ⟨y221, hy221⟩ : ∃ y_ : List (S59), y_ = (([] : List (S59))) := ⟨_, rfl⟩
     replace H : (if 0 ≤ x4_1 then (if y221.length + (rd_L4 l0 x4_1).length < 5864062014805 then (if x3_1.length < 5864062014805 then (tithebarnlaw14_RangesPrint.l0 k1 l0 (x3_1 ++ [(y221 ++ (rd_L4 l0 x4_1))]) (wrap64 (x4_1 + 1))) else (none)) else (none)) else (none)) = some r := by subst hy221; first | (with_reducible exact H) | exact H
     have Ny221 := Aside0.mk hy221
     clear hy221
     by_cases c5 : 0 ≤ x4_1
     rotate_left
     · rw [if_neg c5] at H
       exact absurd H (by simp)
     rw [if_pos c5] at H
     have c5b0 : decide (0 ≤ x4_1) = true := decide_eq_true c5
     clear c5
     by_cases c6 : y221.length + (rd_L4 l0 x4_1).length < 5864062014805
     rotate_left
     · rw [if_neg c6] at H
       exact absurd H (by simp)
     rw [if_pos c6] at H
     have LMc6 := Aside0.mk c6
     clear c6
     obtain ⟨y225, hy225⟩ : ∃ y_ : List (S59), y_ = (y221 ++ (rd_L4 l0 x4_1)) := ⟨_, rfl⟩
     replace H : (if x3_1.length < 5864062014805 then (tithebarnlaw14_RangesPrint.l0 k1 l0 (x3_1 ++ [y225]) (wrap64 (x4_1 + 1))) else (none)) = some r := by subst hy225; first | (with_reducible exact H) | exact H
     have Ny225 := Aside0.mk hy225
     clear hy225
     by_cases c7 : x3_1.length < 5864062014805
     rotate_left
     · rw [if_neg c7] at H
       exact absurd H (by simp)
     rw [if_pos c7] at H
     have LMc7 := Aside0.mk c7
     clear c7
     obtain ⟨y228, hy228⟩ : ∃ y_ : List (List (S59)), y_ = (x3_1 ++ [y225]) := ⟨_, rfl⟩
     replace H : (tithebarnlaw14_RangesPrint.l0 k1 l0 y228 (wrap64 (x4_1 + 1))) = some r := by subst hy228; first | (with_reducible exact H) | exact H
     have Ny228 := Aside0.mk hy228
     clear hy228
     have H' := Aside0.mk H
     clear H
     go_wp2_with (first | ((with_reducible refine gate_dst (N := 20) rfl ?_); refine Kd.R_lit k59 _ 59 ?hg (N := 20) ?hd (xs := ([] : List (S59))) (inner := []) (ok := fun _ => True) (okp := fun _ => True) ?hr ?hp (fun _ hk => hk) trivial (Below.refl _ _) (Nat.le_refl _) (by simp) ?_; (case hd => rfl); (case hg => rfl); (case hr => first | (go_simp; done) | (go_simp; rfl)); (case hp => exact (Reps.none _ _)); intro v222 w8 ho9 hb hg_ hnew_; clear hg_ hnew_; (first | rw [← Ny221.out] at ho9 | (simp only [Int.reduceToNat] at ho9; rw [← Ny221.out] at ho9)); replace HO_3 := Aside0.mk (Kd.S_elder' (pS HO_3.out) (Kd.R_base ho9) hb); have HO223 := Aside0.mk (Kd.R_lower ho9 (below_size tb)); replace HB := Aside0.mk (below_step tb hb); clear hb ho9; have p224 : 0 ≤ (x4_1 : Int) := da; have q224 : x4_1 < (l0.length : Int) := da; obtain ⟨ad224, A224_0, c224_0, e224, hx224_0, hl224_0, hi224_0⟩ := at_L4 HR0.out x4_1 p224 q224; cases e224; replace hx224_0 := (HB.out.cell (World.block_lt_of_cell? w _ hx224_0)).trans hx224_0; have HR224_0 := Aside0.mk hi224_0; have HC224_0 := Aside0.mk hl224_0; clear hi224_0 hl224_0; replace p224 := eq_true p224; replace q224 := eq_true q224) | ((with_reducible refine gate_builtin (b := .append) (xs := #[.tmp 20, .tmp 24]) rfl ?_); at_builtin; refine Kd.R_append_rows k59 (w0 := w) w.heap.size rfl (.tmp 20) (.tmp 24) 47 59 (.agg #[(.int .u8 0), (.string ⟨#[]⟩)]) 24 rfl Tryz.underlying47 info59 rfl (by decide) (by omega) v222 y221 (rd_L4 l0 x4_1) _ _ _ (fun _ => True) (fun _ => False) rfl rfl ?aO ?aR (fun _ _ h => h) (fun _ h => h.elim) ?aF ?aB ?aS ?aL ?_; (case aR => exact pC (Kd.C_below HR224_0.out HB.out)); (case aB => exact tb); (case aF => exact (fun _ _ => trivial)); (case aO => exact (pR HO223.out)); (case aS => exact (below_size tb)); (case aL => have := LMc6.out; omega); intro v226 w10 ho hb hg hat; rw [← Ny225.out] at ho; replace HO_3 := Aside0.mk (Kd.S_after (ok := (fun _ => True)) (pS HO_3.out) hg hat); replace HB := Aside0.mk (hb); have HO227 := Aside0.mk (ho); clear HO223; clear ho hb hg hat; obtain ⟨Ao12, co12, eo12⟩ := Kd.R_slice HO227.out; subst eo12) | ((with_reducible refine gate_builtin (b := .append) (xs := #[.tmp 19, .tmp 26]) rfl ?_); at_builtin; refine Kd.S_append (Kd.slice 59 k59) (w0 := w) w.heap.size rfl (.tmp 19) (.tmp 26) 42 47 (.slice none 0 0) 24 rfl Tryz.underlying42 info47 rfl (by decide) (by omega) u3 x3_1 y225 [.slice Ao12 y225.length co12] (fun _ => True) (fun k_ => some k_ = (.slice Ao12 y225.length co12 : Value).ownBlock) rfl rfl ?aP (fun k_ hk_ => ((Kd.R_mono (ok' := fun k_ => ((fun _ => True)) k_ ∧ some k_ ≠ (u3 : Value).ownBlock) (Kd.R_apart' (HO227.out) (Kd.S_typed HO_3.out) (by decide)) (fun k_ hk => ⟨trivial, hk.2⟩))).1 k_ hk_.symm) ?aF ?aO ?aB ?aS ?aL ?_; (case aP => exact Kd.M_row (Kd.R_mono (Kd.R_tight rfl (Kd.R_mono (ok' := fun k_ => ((fun _ => True)) k_ ∧ some k_ ≠ (u3 : Value).ownBlock) (Kd.R_apart' (HO227.out) (Kd.S_typed HO_3.out) (by decide)) (fun k_ hk => ⟨trivial, hk.2⟩))) (fun _ h_ => h_))); (case aB => exact tb); (case aF => exact (fun _ _ => trivial)); (case aO => exact (by (with_reducible repeat (first | apply Kd.S_alloc | apply Kd.S_drewN | apply Kd.S_drew)); exact Kd.S_mono HO_3.out (fun k_ hk => ⟨trivial, fun e_ => hk.2 e_⟩))); (case aS => exact (below_size tb)); (case aL => have := LMc7.out; omega); intro v229 w11 ho hb hg hat; rw [← Ny228.out] at ho; replace HB := Aside0.mk (hb); have HO230 := Aside0.mk (ho); clear HO_3 HO227; clear ho hb hg hat))
     go_roundg k1
     case measure => have := HK1.out; omega
     case rel => exact ⟨(y228), (wrap64 (x4_1 + 1)), rf, H', ⟨by have := HK1.out; omega⟩, ⟨pS HO230.out⟩, ⟨tb⟩⟩
   rw [if_neg c4] at H
   have c4b0 : decide (x4_1 < (l0.length : Int)) = false := decide_eq_false c4
   clear c4
   replace H := Option.bind_eq_some_iff.mp H
   obtain ⟨⟨t231, t232⟩, A130, H⟩ := H
   replace H : ((tithebarnref14_Print.f k1 l0).bind fun bt233 => (if t231.toList = bt233.1.toList then (if t232 = bt233.2 then ((tithebarnkit_SameRange.f k1 x3_1 l0).bind fun t235 => (if t235 = true then ((tithebarnlaw14_works.f).bind fun t236 => (some t236)) else (some false))) else (some false)) else (some false))) = some r := H
   have A13 := Aside0.mk A130
   clear A130
   replace H := Option.bind_eq_some_iff.mp H
   obtain ⟨⟨t233, t234⟩, A140, H⟩ := H
   replace H : (if t231.toList = t233.toList then (if t232 = t234 then ((tithebarnkit_SameRange.f k1 x3_1 l0).bind fun t235 => (if t235 = true then ((tithebarnlaw14_works.f).bind fun t236 => (some t236)) else (some false))) else (some false)) else (some false)) = some r := H
   have A14 := Aside0.mk A140
   clear A140
   by_cases c15 : t231.toList = t233.toList
   rotate_left
   · rw [if_neg c15] at H
     have c15b0 : (t231.toList == t233.toList) = false := beq_eq_false_iff_ne.mpr c15
     have c15b1 : (t231.toList != t233.toList) = true := bne_iff_ne.mpr c15
     obtain rfl := Option.some.inj H
     go_wp2_with (first | ((with_reducible refine gate_callee (f := 26) rfl ?_); refine goesL_ (some 30) rfl rfl Tryz.func26 (by kernel_rfl) rfl #[.slice A0 l0.length c0] rfl gl ?_; (with_reducible refine (ranges_Print.calls k1 _ _ l0 t231 t232 _ ?side1 ?side2 ?side3 A13.out).mono ?_); (case side1 => exact pC (Kd.C_below HR0.out HB.out)); (case side2 => exact HC0.out); (case side3 => exact RTabs.below HTabs.out tb); rintro e w29 ⟨rfl, hb⟩; refine ⟨_, rfl, ?_⟩; replace HO_3 := bS HO_3 hb; replace HB := Aside0.mk (below_step tb hb); (try clear hb)) | ((with_reducible refine gate_callee (f := 27) rfl ?_); refine goesL_ (some 35) rfl rfl Tryz.func27 (by kernel_rfl) rfl #[.slice A0 l0.length c0] rfl gl ?_; (with_reducible refine (tithebarnref14_Print.calls k1 _ _ l0 t233 t234 _ ?side1 ?side2 A14.out).mono ?_); (case side1 => exact pC (Kd.C_below HR0.out HB.out)); (case side2 => exact HC0.out); rintro e w30 ⟨rfl, hb⟩; refine ⟨_, rfl, ?_⟩; replace HO_3 := bS HO_3 hb; replace HB := Aside0.mk (below_step tb hb); (try clear hb)))
     go_ret
     exact ⟨by first | rfl | (simp [errW_none, errW_some] <;> rfl) | (simp [*, errW_none, errW_some] <;> rfl), tb⟩
   rw [if_pos c15] at H
   have c15b0 : (t231.toList == t233.toList) = true := beq_iff_eq.mpr c15
   have c15b1 : (t231.toList != t233.toList) = false := bne_eq_false_iff_eq.mpr c15
   clear c15
   by_cases c16 : t232 = t234
   rotate_left
   · rw [if_neg c16] at H
     have c16b0 : (t232 == t234) = false := beq_eq_false_iff_ne.mpr c16
     have c16b1 : (t232 != t234) = true := bne_iff_ne.mpr c16
     obtain rfl := Option.some.inj H
     go_wp2_with (first | ((with_reducible refine gate_callee (f := 26) rfl ?_); refine goesL_ (some 30) rfl rfl Tryz.func26 (by kernel_rfl) rfl #[.slice A0 l0.length c0] rfl gl ?_; (with_reducible refine (ranges_Print.calls k1 _ _ l0 t231 t232 _ ?side1 ?side2 ?side3 A13.out).mono ?_); (case side1 => exact pC (Kd.C_below HR0.out HB.out)); (case side2 => exact HC0.out); (case side3 => exact RTabs.below HTabs.out tb); rintro e w27 ⟨rfl, hb⟩; refine ⟨_, rfl, ?_⟩; replace HO_3 := bS HO_3 hb; replace HB := Aside0.mk (below_step tb hb); (try clear hb)) | ((with_reducible refine gate_callee (f := 27) rfl ?_); refine goesL_ (some 35) rfl rfl Tryz.func27 (by kernel_rfl) rfl #[.slice A0 l0.length c0] rfl gl ?_; (with_reducible refine (tithebarnref14_Print.calls k1 _ _ l0 t233 t234 _ ?side1 ?side2 A14.out).mono ?_); (case side1 => exact pC (Kd.C_below HR0.out HB.out)); (case side2 => exact HC0.out); rintro e w28 ⟨rfl, hb⟩; refine ⟨_, rfl, ?_⟩; replace HO_3 := bS HO_3 hb; replace HB := Aside0.mk (below_step tb hb); (try clear hb)))
     go_ret
     exact ⟨by first | rfl | (simp [errW_none, errW_some] <;> rfl) | (simp [*, errW_none, errW_some] <;> rfl), tb⟩
   rw [if_pos c16] at H
   have c16b0 : (t232 == t234) = true := beq_iff_eq.mpr c16
   have c16b1 : (t232 != t234) = false := bne_eq_false_iff_eq.mpr c16
   clear c16
   obtain ⟨t235, A170, H⟩ := Option.bind_eq_some_iff.mp H
   have A17 := Aside0.mk A170
   clear A170
   by_cases c18 : t235 = true
   rotate_left
   · replace c18 := Bool.eq_false_iff.mpr c18
     subst c18
     rw [if_neg (show ¬ (false = true) by decide)] at H
     obtain rfl := Option.some.inj H
     go_wp2_with (first | ((with_reducible refine gate_callee (f := 26) rfl ?_); refine goesL_ (some 30) rfl rfl Tryz.func26 (by kernel_rfl) rfl #[.slice A0 l0.length c0] rfl gl ?_; (with_reducible refine (ranges_Print.calls k1 _ _ l0 t231 t232 _ ?side1 ?side2 ?side3 A13.out).mono ?_); (case side1 => exact pC (Kd.C_below HR0.out HB.out)); (case side2 => exact HC0.out); (case side3 => exact RTabs.below HTabs.out tb); rintro e w24 ⟨rfl, hb⟩; refine ⟨_, rfl, ?_⟩; replace HO_3 := bS HO_3 hb; replace HB := Aside0.mk (below_step tb hb); (try clear hb)) | ((with_reducible refine gate_callee (f := 27) rfl ?_); refine goesL_ (some 35) rfl rfl Tryz.func27 (by kernel_rfl) rfl #[.slice A0 l0.length c0] rfl gl ?_; (with_reducible refine (tithebarnref14_Print.calls k1 _ _ l0 t233 t234 _ ?side1 ?side2 A14.out).mono ?_); (case side1 => exact pC (Kd.C_below HR0.out HB.out)); (case side2 => exact HC0.out); rintro e w25 ⟨rfl, hb⟩; refine ⟨_, rfl, ?_⟩; replace HO_3 := bS HO_3 hb; replace HB := Aside0.mk (below_step tb hb); (try clear hb); obtain ⟨Ao26, co26, eo26⟩ := Kd.S_slice HO_3.out; subst eo26) | (go_at_call 24; (with_reducible refine (tithebarnkit_SameRange.calls k1 _ _ x3_1 _ _ l0 false _ ?side1 ?side2 ?side3 ?side4 A17.out).mono ?_); (case side1 => exact pC (Kd.S_reads' HO_3.out).2.2); (case side2 => exact (Kd.S_reads' HO_3.out).2.1); (case side3 => exact pC (Kd.C_below HR0.out HB.out)); (case side4 => exact HC0.out); rintro e w' ⟨rfl, ⟨nd, rfl⟩⟩))
     go_ret
     exact ⟨by first | rfl | (simp [errW_none, errW_some] <;> rfl) | (simp [*, errW_none, errW_some] <;> rfl), tb⟩
   subst c18
   rw [if_pos rfl] at H
   obtain ⟨t236, A190, H⟩ := Option.bind_eq_some_iff.mp H
   have A19 := Aside0.mk A190
   clear A190
   obtain rfl := Option.some.inj H
   go_wp2_with (first | ((with_reducible refine gate_callee (f := 26) rfl ?_); refine goesL_ (some 30) rfl rfl Tryz.func26 (by kernel_rfl) rfl #[.slice A0 l0.length c0] rfl gl ?_; (with_reducible refine (ranges_Print.calls k1 _ _ l0 t231 t232 _ ?side1 ?side2 ?side3 A13.out).mono ?_); (case side1 => exact pC (Kd.C_below HR0.out HB.out)); (case side2 => exact HC0.out); (case side3 => exact RTabs.below HTabs.out tb); rintro e w20 ⟨rfl, hb⟩; refine ⟨_, rfl, ?_⟩; replace HO_3 := bS HO_3 hb; replace HB := Aside0.mk (below_step tb hb); (try clear hb)) | ((with_reducible refine gate_callee (f := 27) rfl ?_); refine goesL_ (some 35) rfl rfl Tryz.func27 (by kernel_rfl) rfl #[.slice A0 l0.length c0] rfl gl ?_; (with_reducible refine (tithebarnref14_Print.calls k1 _ _ l0 t233 t234 _ ?side1 ?side2 A14.out).mono ?_); (case side1 => exact pC (Kd.C_below HR0.out HB.out)); (case side2 => exact HC0.out); rintro e w21 ⟨rfl, hb⟩; refine ⟨_, rfl, ?_⟩; replace HO_3 := bS HO_3 hb; replace HB := Aside0.mk (below_step tb hb); (try clear hb); obtain ⟨Ao22, co22, eo22⟩ := Kd.S_slice HO_3.out; subst eo22) | (go_at_call 24; (with_reducible refine (tithebarnkit_SameRange.calls k1 _ _ x3_1 _ _ l0 true _ ?side1 ?side2 ?side3 ?side4 A17.out).mono ?_); (case side1 => exact pC (Kd.S_reads' HO_3.out).2.2); (case side2 => exact (Kd.S_reads' HO_3.out).2.1); (case side3 => exact pC (Kd.C_below HR0.out HB.out)); (case side4 => exact HC0.out); rintro e w' ⟨rfl, ⟨nd, rfl⟩⟩) | (go_at_call 21; (with_reducible refine (tithebarnlaw14_works.calls  t236 _ ?side1 A19.out).mono ?_); (case side1 => exact RTabs.below HTabs.out tb); rintro e w23 ⟨rfl, hb⟩; replace HO_3 := bS HO_3 hb; replace HB := Aside0.mk (below_step tb hb); (try clear hb)))
   go_ret
   exact ⟨by first | rfl | (simp [errW_none, errW_some] <;> rfl) | (simp [*, errW_none, errW_some] <;> rfl), tb⟩
end Go.Proofs.YtnbmdecehlljcaaGreatDoor.PRq
