/- The statement VersionOrder: whatever the input, the law answers true and its arguments read as they did. No condition. -/
import Derived.Test.YtnbmdecehlljcaaDoorRows
import Derived.Test.YtnbmdecehlljcaaDoorCards
import Derived.Test.YtnbmdecehlljcaaDoorTie
import Derived.Test.YtnbmdecehlljcaaDoorOpen
import Derived.Test.YtnbmdecehlljcaaDoorPVerx11
import Derived.Test.YtnbmdecehlljcaaDoorVerW
import Derived.Test.YtnbmdecehlljcaaDoorVerR2
import Derived.WalkKit
import Derived.ProofKit
import Derived.OpenShut
import Derived.ShutString
import Derived.ChangeOld
import Derived.Below
import Derived.SizedLaws
namespace Go.Proofs.YtnbmdecehlljcaaDoor.versionOrder
open Go.ChangeShapes Go.WideShapes Go.ChangeAt Go.RowKit Go.Proofs.YtnbmdecehlljcaaDoorW.PrintWords
open Go.ChangeMaps (open_string shut_string)
set_option linter.unusedVariables false
set_option linter.unusedSimpArgs false
theorem op0 : Opens Tryd.prog 25 (Kd.pair (Kd.slice 3 (Kd.int .i64)) Kd.string) (fun x => (x.1.length ≤ maxLen ∧ ∀ y0 ∈ x.1, (Lit.int .i64 y0).wf = true) ∧ x.2.size ≤ maxLen) := (opens_struct2 Tryd.underlying25 (by kernel_rfl) (by kernel_rfl) (by kernel_rfl) rfl rfl (opens_slice Tryd.underlying23 (by kernel_rfl) (opens_int Tryd.underlying3)) (opens_string Tryd.underlying9))
theorem op1 : Opens Tryd.prog 25 (Kd.pair (Kd.slice 3 (Kd.int .i64)) Kd.string) (fun x => (x.1.length ≤ maxLen ∧ ∀ y0 ∈ x.1, (Lit.int .i64 y0).wf = true) ∧ x.2.size ≤ maxLen) := (opens_struct2 Tryd.underlying25 (by kernel_rfl) (by kernel_rfl) (by kernel_rfl) rfl rfl (opens_slice Tryd.underlying23 (by kernel_rfl) (opens_int Tryd.underlying3)) (opens_string Tryd.underlying9))
theorem op2 : Opens Tryd.prog 25 (Kd.pair (Kd.slice 3 (Kd.int .i64)) Kd.string) (fun x => (x.1.length ≤ maxLen ∧ ∀ y0 ∈ x.1, (Lit.int .i64 y0).wf = true) ∧ x.2.size ≤ maxLen) := (opens_struct2 Tryd.underlying25 (by kernel_rfl) (by kernel_rfl) (by kernel_rfl) rfl rfl (opens_slice Tryd.underlying23 (by kernel_rfl) (opens_int Tryd.underlying3)) (opens_string Tryd.underlying9))
set_option maxRecDepth 100000 in
theorem lifted (os : Os) (started : os.Started) (H : Type) (enc : TypeId × Value → H) (F : Stop.Interp) :
    ReturnsInHanded {} Tryd.checked os 5 .any ((OpenSpec.ofChange Rows.versionOrderSpec).preRow enc Tryd.prog Tryd.f5 Rows.versionOrderRow.domain false Rows.versionOrderRow.laid) (((OpenSpec.ofChange Rows.versionOrderSpec).at F).post enc Tryd.prog Tryd.f5 false true false false) := by
  refine returnsInHanded_of_row (C := Tryd.checked) (s := OpenSpec.ofChange Rows.versionOrderSpec) own started (by kernel_rfl) Tryd.func5
    (witness_laid os #[.agg #[.slice none 0 0, .string ByteArray.empty], .agg #[.slice none 0 0, .string ByteArray.empty], .agg #[.slice none 0 0, .string ByteArray.empty]] (by kernel_rfl) (by kernel_rfl) (fun k hk => by cases hk) (by kernel_rfl)) ?_
  intro W base args ds gs before hval0 hW hcnd _ hsz0 hL hSh _
  have hTabs := vtabs_of hL hSh
  show Calls Tryd.prog 5 args W fun e W' => ∃ v, e = .returned v ∧ Rows.versionOrderSpec.post enc Tryd.prog Tryd.f5 false true false false W args v W'
  have hval : ∀ (j : Nat) t v, Tryd.f5.params[j]? = some t → args[j]? = some v → Value.okWide Tryd.prog W .any base t v := hval0
  have hW' := hW
  obtain ⟨p, q, hA0, hV, rfl, hfz, hnd⟩ := hW
  have hA : DataW.TrodAll enc Tryd.prog W 0 (fun _ => true) true Tryd.f5.params.toList args.toList ds p := hA0
  rw [Tryd.params5] at hA hval
  obtain ⟨v0, vs0, d0, ds0, p0, q0, hargs, rfl, rfl, h0, r0⟩ := trodAll_cons hA
  obtain ⟨v1, vs1, d1, ds1, p1, q1, rfl, rfl, rfl, h1, r1⟩ := trodAll_cons r0
  obtain ⟨v2, vs2, d2, ds2, p2, q2, rfl, rfl, rfl, h2, r2⟩ := trodAll_cons r1
  obtain ⟨rfl, rfl, rfl⟩ := trodAll_nil r2
  obtain rfl : args = #[v0, v1, v2] := by cases args; simp_all
  obtain ⟨rfl, rfl⟩ := trodVars_none hV
  obtain ⟨cs0, rfl, hz0⟩ := okWide_struct Tryd.underlying25 (hval 0 25 v0 rfl rfl)
  have k0 := h0
  have lt0 : ∀ x ∈ p0, x.block < W.heap.size := by obtain ⟨m, hm⟩ := k0; exact DataW.trod_lt m _ _ _ hm
  obtain ⟨fuel0, hf0⟩ := h0
  obtain ⟨x0, hx0, wx0⟩ := op0 enc W _ _ _ fuel0 _ _ hf0
  obtain ⟨c0_0, r0_0, e0_0, g0_0, t0_0⟩ := hx0
  obtain ⟨A0_0, cp0_0, q0_0, hc0_0, hr0_0⟩ := g0_0
  subst q0_0
  have q0_1 : r0_0 = [.string x0.2] := t0_0
  subst q0_1
  obtain rfl : cs0 = #[.slice A0_0 x0.1.length cp0_0, .string x0.2] := by cases cs0; simpa [Value.cells] using e0_0
  obtain ⟨cs1, rfl, hz1⟩ := okWide_struct Tryd.underlying25 (hval 1 25 v1 rfl rfl)
  have k1 := h1
  have lt1 : ∀ x ∈ p1, x.block < W.heap.size := by obtain ⟨m, hm⟩ := k1; exact DataW.trod_lt m _ _ _ hm
  obtain ⟨fuel1, hf1⟩ := h1
  obtain ⟨x1, hx1, wx1⟩ := op1 enc W _ _ _ fuel1 _ _ hf1
  obtain ⟨c1_0, r1_0, e1_0, g1_0, t1_0⟩ := hx1
  obtain ⟨A1_0, cp1_0, q1_0, hc1_0, hr1_0⟩ := g1_0
  subst q1_0
  have q1_1 : r1_0 = [.string x1.2] := t1_0
  subst q1_1
  obtain rfl : cs1 = #[.slice A1_0 x1.1.length cp1_0, .string x1.2] := by cases cs1; simpa [Value.cells] using e1_0
  obtain ⟨cs2, rfl, hz2⟩ := okWide_struct Tryd.underlying25 (hval 2 25 v2 rfl rfl)
  have k2 := h2
  have lt2 : ∀ x ∈ p2, x.block < W.heap.size := by obtain ⟨m, hm⟩ := k2; exact DataW.trod_lt m _ _ _ hm
  obtain ⟨fuel2, hf2⟩ := h2
  obtain ⟨x2, hx2, wx2⟩ := op2 enc W _ _ _ fuel2 _ _ hf2
  obtain ⟨c2_0, r2_0, e2_0, g2_0, t2_0⟩ := hx2
  obtain ⟨A2_0, cp2_0, q2_0, hc2_0, hr2_0⟩ := g2_0
  subst q2_0
  have q2_1 : r2_0 = [.string x2.2] := t2_0
  subst q2_1
  obtain rfl : cs2 = #[.slice A2_0 x2.1.length cp2_0, .string x2.2] := by cases cs2; simpa [Value.cells] using e2_0
  clear hA0 hval0 hsz0
  obtain ⟨k, hp⟩ := pure_VersionOrder (x0.1) (x0.2) (x1.1) (x1.2) (x2.1) (x2.2) (wx0.1) (wx0.2) (wx1.1) (wx1.2) (wx2.1) (wx2.2)
  refine (PVer.tithebarnlaw13_VersionOrder.calls k _ _ (x0.1) (x0.2) _ _ (x1.1) (x1.2) _ _ (x2.1) (x2.2) true W hr0_0 hc0_0 hr1_0 hc1_0 hr2_0 hc2_0 hTabs hp).mono fun e W' ⟨he, bel0⟩ => ?_
  have bel : Below W.heap.size W W' := bel0
  subst he
  exact ⟨_, rfl, _, _, _, [], _, [], hW', trodAll_mk1 (shut_bool Tryd.underlying4 _), (trodAll_cons_mk (Below.trod laidOut (by kernel_rfl) (of_decide_eq_true (by kernel_rfl)) k0 bel lt0) (trodAll_cons_mk (Below.trod laidOut (by kernel_rfl) (of_decide_eq_true (by kernel_rfl)) k1 bel lt1) (trodAll_cons_mk (Below.trod laidOut (by kernel_rfl) (of_decide_eq_true (by kernel_rfl)) k2 bel lt2) trodAll_mk0))), rfl, bel.frame _, fun h => by cases h⟩
theorem said : Rows.VersionOrderSaid :=
  OpenClaim.holds_of_cond 5 Tryd.f5 rfl rfl rfl rfl rfl rfl rfl ⟨rfl, rfl, rfl, rfl, rfl⟩ rfl rfl rfl rfl rfl (by kernel_rfl) Tryd.func5 (by kernel_rfl)
    (of_decide_eq_true (by kernel_rfl)) (by unfold Func.isWrapper; first | (rw [if_pos (by decide +kernel)]; kernel_rfl) | (rw [if_neg (by decide +kernel)]; exact ⟨rfl, rfl⟩))
    (fun os started H enc _ F => by rw [OpenClaim.pre_eq_preRow]; exact lifted os started H enc F)
theorem plain (f : FuncId) (fn : Func) (hf : Tryd.pinned.checked.prog.funcNamed "tithebarn/tithebarnlaw13.VersionOrder" = some f) (hfn : Tryd.pinned.checked.prog.funcs[f]? = some fn) :
    true = Tryd.pinned.checked.prog.looks [] ∧ ∀ (j : Nat) t, fn.params[j]? = some t → Tryd.pinned.checked.prog.wantsStandIn t = false := by
  obtain rfl : f = 5 := Option.some.inj ((show Tryd.prog.funcNamed "tithebarn/tithebarnlaw13.VersionOrder" = some 5 by kernel_rfl).symm.trans hf) |>.symm
  obtain rfl : fn = Tryd.f5 := (Option.some.inj (Tryd.func5.symm.trans hfn)).symm
  refine ⟨by kernel_rfl, fun j t ht => ?_⟩
  rw [Tryd.params5] at ht
  have hm : t ∈ #[25, 25, 25] := Array.mem_of_getElem? ht
  simp only [List.mem_toArray, List.mem_cons, List.mem_nil_iff, or_false] at hm
  rcases hm with hm | hm | hm
  · rw [hm]; exact (show Tryd.prog.wantsStandIn 25 = false by kernel_rfl)
  · rw [hm]; exact (show Tryd.prog.wantsStandIn 25 = false by kernel_rfl)
  · rw [hm]; exact (show Tryd.prog.wantsStandIn 25 = false by kernel_rfl)
theorem card : Rows.VersionOrderCardSaid :=
  Claim7.holds_tied_plain_at .later [] _ _ _ _ said (fun _ h => by cases h) (by kernel_rfl) (fun _ h => by cases h) versionOrder_row_tie rfl ⟨rfl, rfl⟩ (by kernel_rfl) rfl plain (by kernel_rfl)
#print axioms card
end Go.Proofs.YtnbmdecehlljcaaDoor.versionOrder
namespace Go.Proofs.YtnbmdecehlljcaaDoor
theorem versionOrder_holds : Rows.VersionOrderCardSaid := versionOrder.card
end Go.Proofs.YtnbmdecehlljcaaDoor
