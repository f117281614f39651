/- The statement VersionCompare: whatever the input, the law answers true and its arguments read as they did. No condition. -/
import Derived.Test.YtnbmdecehlljcaaDoorRows
import Derived.Test.YtnbmdecehlljcaaDoorCards
import Derived.Test.YtnbmdecehlljcaaDoorTie
import Derived.Test.YtnbmdecehlljcaaDoorOpen
import Derived.Test.YtnbmdecehlljcaaDoorPVerx10
import Derived.Test.YtnbmdecehlljcaaDoorVerW
import Derived.Test.YtnbmdecehlljcaaDoorVerS7
import Derived.WalkKit
import Derived.ProofKit
import Derived.OpenShut
import Derived.ShutString
import Derived.ChangeOld
import Derived.Below
import Derived.SizedLaws
namespace Go.Proofs.YtnbmdecehlljcaaDoor.versionCompare
open Go.ChangeShapes Go.WideShapes Go.ChangeAt Go.RowKit Go.Proofs.YtnbmdecehlljcaaDoorW.PrintWords
open Go.ChangeMaps (open_string shut_string)
set_option linter.unusedVariables false
set_option linter.unusedSimpArgs false
theorem op0 : Opens Tryd.prog 25 (Kd.pair (Kd.slice 3 (Kd.int .i64)) Kd.string) (fun x => (x.1.length ≤ maxLen ∧ ∀ y0 ∈ x.1, (Lit.int .i64 y0).wf = true) ∧ x.2.size ≤ maxLen) := (opens_struct2 Tryd.underlying25 (by kernel_rfl) (by kernel_rfl) (by kernel_rfl) rfl rfl (opens_slice Tryd.underlying23 (by kernel_rfl) (opens_int Tryd.underlying3)) (opens_string Tryd.underlying9))
theorem op1 : Opens Tryd.prog 25 (Kd.pair (Kd.slice 3 (Kd.int .i64)) Kd.string) (fun x => (x.1.length ≤ maxLen ∧ ∀ y0 ∈ x.1, (Lit.int .i64 y0).wf = true) ∧ x.2.size ≤ maxLen) := (opens_struct2 Tryd.underlying25 (by kernel_rfl) (by kernel_rfl) (by kernel_rfl) rfl rfl (opens_slice Tryd.underlying23 (by kernel_rfl) (opens_int Tryd.underlying3)) (opens_string Tryd.underlying9))
set_option maxRecDepth 100000 in
theorem lifted (os : Os) (started : os.Started) (H : Type) (enc : TypeId × Value → H) (F : Stop.Interp) :
    ReturnsInHanded {} Tryd.checked os 4 .any ((OpenSpec.ofChange Rows.versionCompareSpec).preRow enc Tryd.prog Tryd.f4 Rows.versionCompareRow.domain false Rows.versionCompareRow.laid) (((OpenSpec.ofChange Rows.versionCompareSpec).at F).post enc Tryd.prog Tryd.f4 false true false false) := by
  refine returnsInHanded_of_row (C := Tryd.checked) (s := OpenSpec.ofChange Rows.versionCompareSpec) own started (by kernel_rfl) Tryd.func4
    (witness_laid os #[.agg #[.slice none 0 0, .string ByteArray.empty], .agg #[.slice none 0 0, .string ByteArray.empty], .string ByteArray.empty, .string ByteArray.empty] (by kernel_rfl) (by kernel_rfl) (fun k hk => by cases hk) (by kernel_rfl)) ?_
  intro W base args ds gs before hval0 hW hcnd _ hsz0 hL hSh _
  have hTabs := vtabs_of hL hSh
  show Calls Tryd.prog 4 args W fun e W' => ∃ v, e = .returned v ∧ Rows.versionCompareSpec.post enc Tryd.prog Tryd.f4 false true false false W args v W'
  have hval : ∀ (j : Nat) t v, Tryd.f4.params[j]? = some t → args[j]? = some v → Value.okWide Tryd.prog W .any base t v := hval0
  have hW' := hW
  obtain ⟨p, q, hA0, hV, rfl, hfz, hnd⟩ := hW
  have hA : DataW.TrodAll enc Tryd.prog W 0 (fun _ => true) true Tryd.f4.params.toList args.toList ds p := hA0
  rw [Tryd.params4] at hA hval
  obtain ⟨v0, vs0, d0, ds0, p0, q0, hargs, rfl, rfl, h0, r0⟩ := trodAll_cons hA
  obtain ⟨v1, vs1, d1, ds1, p1, q1, rfl, rfl, rfl, h1, r1⟩ := trodAll_cons r0
  obtain ⟨v2, vs2, d2, ds2, p2, q2, rfl, rfl, rfl, h2, r2⟩ := trodAll_cons r1
  obtain ⟨v3, vs3, d3, ds3, p3, q3, rfl, rfl, rfl, h3, r3⟩ := trodAll_cons r2
  obtain ⟨rfl, rfl, rfl⟩ := trodAll_nil r3
  obtain rfl : args = #[v0, v1, v2, v3] := by cases args; simp_all
  obtain ⟨rfl, rfl⟩ := trodVars_none hV
  obtain ⟨cs0, rfl, hz0⟩ := okWide_struct Tryd.underlying25 (hval 0 25 v0 rfl rfl)
  have k0 := h0
  have lt0 : ∀ x ∈ p0, x.block < W.heap.size := by obtain ⟨m, hm⟩ := k0; exact DataW.trod_lt m _ _ _ hm
  obtain ⟨fuel0, hf0⟩ := h0
  obtain ⟨x0, hx0, wx0⟩ := op0 enc W _ _ _ fuel0 _ _ hf0
  obtain ⟨c0_0, r0_0, e0_0, g0_0, t0_0⟩ := hx0
  obtain ⟨A0_0, cp0_0, q0_0, hc0_0, hr0_0⟩ := g0_0
  subst q0_0
  have q0_1 : r0_0 = [.string x0.2] := t0_0
  subst q0_1
  obtain rfl : cs0 = #[.slice A0_0 x0.1.length cp0_0, .string x0.2] := by cases cs0; simpa [Value.cells] using e0_0
  obtain ⟨cs1, rfl, hz1⟩ := okWide_struct Tryd.underlying25 (hval 1 25 v1 rfl rfl)
  have k1 := h1
  have lt1 : ∀ x ∈ p1, x.block < W.heap.size := by obtain ⟨m, hm⟩ := k1; exact DataW.trod_lt m _ _ _ hm
  obtain ⟨fuel1, hf1⟩ := h1
  obtain ⟨x1, hx1, wx1⟩ := op1 enc W _ _ _ fuel1 _ _ hf1
  obtain ⟨c1_0, r1_0, e1_0, g1_0, t1_0⟩ := hx1
  obtain ⟨A1_0, cp1_0, q1_0, hc1_0, hr1_0⟩ := g1_0
  subst q1_0
  have q1_1 : r1_0 = [.string x1.2] := t1_0
  subst q1_1
  obtain rfl : cs1 = #[.slice A1_0 x1.1.length cp1_0, .string x1.2] := by cases cs1; simpa [Value.cells] using e1_0
  obtain ⟨a2, rfl, rfl, rfl, w2⟩ := open_string Tryd.underlying9 (hval 2 9 v2 rfl rfl) h2
  obtain ⟨a3, rfl, rfl, rfl, w3⟩ := open_string Tryd.underlying9 (hval 3 9 v3 rfl rfl) h3
  clear hA0 hval0 hsz0
  obtain ⟨k, hp⟩ := pure_VersionCompare (x0.1) (x0.2) (x1.1) (x1.2) a2 a3 (wx0.1) (wx0.2) (wx1.1) (wx1.2) w2 w3
  refine (PVer.tithebarnlaw13_VersionCompare.calls k _ _ (x0.1) (x0.2) _ _ (x1.1) (x1.2) a2 a3 true W hr0_0 hc0_0 hr1_0 hc1_0 hTabs hp).mono fun e W' ⟨he, bel0⟩ => ?_
  have bel : Below W.heap.size W W' := bel0
  subst he
  exact ⟨_, rfl, _, _, _, [], _, [], hW', trodAll_mk1 (shut_bool Tryd.underlying4 _), (trodAll_cons_mk (Below.trod laidOut (by kernel_rfl) (of_decide_eq_true (by kernel_rfl)) k0 bel lt0) (trodAll_cons_mk (Below.trod laidOut (by kernel_rfl) (of_decide_eq_true (by kernel_rfl)) k1 bel lt1) (trodAll_cons_mk (shut_string Tryd.underlying9 w2) (trodAll_cons_mk (shut_string Tryd.underlying9 w3) trodAll_mk0)))), rfl, bel.frame _, fun h => by cases h⟩
theorem said : Rows.VersionCompareSaid :=
  OpenClaim.holds_of_cond 4 Tryd.f4 rfl rfl rfl rfl rfl rfl rfl ⟨rfl, rfl, rfl, rfl, rfl⟩ rfl rfl rfl rfl rfl (by kernel_rfl) Tryd.func4 (by kernel_rfl)
    (of_decide_eq_true (by kernel_rfl)) (by unfold Func.isWrapper; first | (rw [if_pos (by decide +kernel)]; kernel_rfl) | (rw [if_neg (by decide +kernel)]; exact ⟨rfl, rfl⟩))
    (fun os started H enc _ F => by rw [OpenClaim.pre_eq_preRow]; exact lifted os started H enc F)
theorem plain (f : FuncId) (fn : Func) (hf : Tryd.pinned.checked.prog.funcNamed "tithebarn/tithebarnlaw13.VersionCompare" = some f) (hfn : Tryd.pinned.checked.prog.funcs[f]? = some fn) :
    true = Tryd.pinned.checked.prog.looks [] ∧ ∀ (j : Nat) t, fn.params[j]? = some t → Tryd.pinned.checked.prog.wantsStandIn t = false := by
  obtain rfl : f = 4 := Option.some.inj ((show Tryd.prog.funcNamed "tithebarn/tithebarnlaw13.VersionCompare" = some 4 by kernel_rfl).symm.trans hf) |>.symm
  obtain rfl : fn = Tryd.f4 := (Option.some.inj (Tryd.func4.symm.trans hfn)).symm
  refine ⟨by kernel_rfl, fun j t ht => ?_⟩
  rw [Tryd.params4] at ht
  have hm : t ∈ #[25, 25, 9, 9] := Array.mem_of_getElem? ht
  simp only [List.mem_toArray, List.mem_cons, List.mem_nil_iff, or_false] at hm
  rcases hm with hm | hm | hm | hm
  · rw [hm]; exact (show Tryd.prog.wantsStandIn 25 = false by kernel_rfl)
  · rw [hm]; exact (show Tryd.prog.wantsStandIn 25 = false by kernel_rfl)
  · rw [hm]; exact (show Tryd.prog.wantsStandIn 9 = false by kernel_rfl)
  · rw [hm]; exact (show Tryd.prog.wantsStandIn 9 = false by kernel_rfl)
theorem card : Rows.VersionCompareCardSaid :=
  Claim7.holds_tied_plain_at .later [] _ _ _ _ said (fun _ h => by cases h) (by kernel_rfl) (fun _ h => by cases h) versionCompare_row_tie rfl ⟨rfl, rfl⟩ (by kernel_rfl) rfl plain (by kernel_rfl)
#print axioms card
end Go.Proofs.YtnbmdecehlljcaaDoor.versionCompare
namespace Go.Proofs.YtnbmdecehlljcaaDoor
theorem versionCompare_holds : Rows.VersionCompareCardSaid := versionCompare.card
end Go.Proofs.YtnbmdecehlljcaaDoor
