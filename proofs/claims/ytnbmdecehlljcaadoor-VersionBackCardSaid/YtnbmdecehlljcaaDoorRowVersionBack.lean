/- The statement VersionBack: whatever the input, the law answers true and its arguments read as they did. No condition. -/
import Derived.Test.YtnbmdecehlljcaaDoorRows
import Derived.Test.YtnbmdecehlljcaaDoorCards
import Derived.Test.YtnbmdecehlljcaaDoorTie
import Derived.Test.YtnbmdecehlljcaaDoorOpen
import Derived.Test.YtnbmdecehlljcaaDoorPVerx15
import Derived.Test.YtnbmdecehlljcaaDoorVerW
import Derived.Test.YtnbmdecehlljcaaDoorVerS4
import Derived.WalkKit
import Derived.ProofKit
import Derived.OpenShut
import Derived.ShutString
import Derived.ChangeOld
import Derived.Below
import Derived.SizedLaws
namespace Go.Proofs.YtnbmdecehlljcaaDoor.versionBack
open Go.ChangeShapes Go.WideShapes Go.ChangeAt Go.RowKit Go.Proofs.YtnbmdecehlljcaaDoorW.PrintWords
open Go.ChangeMaps (open_string shut_string)
set_option linter.unusedVariables false
set_option linter.unusedSimpArgs false
theorem op1 : Opens Tryd.prog 25 (Kd.pair (Kd.slice 3 (Kd.int .i64)) Kd.string) (fun x => (x.1.length ≤ maxLen ∧ ∀ y0 ∈ x.1, (Lit.int .i64 y0).wf = true) ∧ x.2.size ≤ maxLen) := (opens_struct2 Tryd.underlying25 (by kernel_rfl) (by kernel_rfl) (by kernel_rfl) rfl rfl (opens_slice Tryd.underlying23 (by kernel_rfl) (opens_int Tryd.underlying3)) (opens_string Tryd.underlying9))
set_option maxRecDepth 100000 in
theorem lifted (os : Os) (started : os.Started) (H : Type) (enc : TypeId × Value → H) (F : Stop.Interp) :
    ReturnsInHanded {} Tryd.checked os 7 .any ((OpenSpec.ofChange Rows.versionBackSpec).preRow enc Tryd.prog Tryd.f7 Rows.versionBackRow.domain false Rows.versionBackRow.laid) (((OpenSpec.ofChange Rows.versionBackSpec).at F).post enc Tryd.prog Tryd.f7 false true false false) := by
  refine returnsInHanded_of_row (C := Tryd.checked) (s := OpenSpec.ofChange Rows.versionBackSpec) own started (by kernel_rfl) Tryd.func7
    (witness_laid os #[.string ByteArray.empty, .agg #[.slice none 0 0, .string ByteArray.empty]] (by kernel_rfl) (by kernel_rfl) (fun k hk => by cases hk) (by kernel_rfl)) ?_
  intro W base args ds gs before hval0 hW hcnd _ hsz0 hL hSh _
  have hTabs := vtabs_of hL hSh
  show Calls Tryd.prog 7 args W fun e W' => ∃ v, e = .returned v ∧ Rows.versionBackSpec.post enc Tryd.prog Tryd.f7 false true false false W args v W'
  have hval : ∀ (j : Nat) t v, Tryd.f7.params[j]? = some t → args[j]? = some v → Value.okWide Tryd.prog W .any base t v := hval0
  have hW' := hW
  obtain ⟨p, q, hA0, hV, rfl, hfz, hnd⟩ := hW
  have hA : DataW.TrodAll enc Tryd.prog W 0 (fun _ => true) true Tryd.f7.params.toList args.toList ds p := hA0
  rw [Tryd.params7] at hA hval
  obtain ⟨v0, vs0, d0, ds0, p0, q0, hargs, rfl, rfl, h0, r0⟩ := trodAll_cons hA
  obtain ⟨v1, vs1, d1, ds1, p1, q1, rfl, rfl, rfl, h1, r1⟩ := trodAll_cons r0
  obtain ⟨rfl, rfl, rfl⟩ := trodAll_nil r1
  obtain rfl : args = #[v0, v1] := by cases args; simp_all
  obtain ⟨rfl, rfl⟩ := trodVars_none hV
  obtain ⟨a0, rfl, rfl, rfl, w0⟩ := open_string Tryd.underlying9 (hval 0 9 v0 rfl rfl) h0
  obtain ⟨cs1, rfl, hz1⟩ := okWide_struct Tryd.underlying25 (hval 1 25 v1 rfl rfl)
  have k1 := h1
  have lt1 : ∀ x ∈ p1, x.block < W.heap.size := by obtain ⟨m, hm⟩ := k1; exact DataW.trod_lt m _ _ _ hm
  obtain ⟨fuel1, hf1⟩ := h1
  obtain ⟨x1, hx1, wx1⟩ := op1 enc W _ _ _ fuel1 _ _ hf1
  obtain ⟨c1_0, r1_0, e1_0, g1_0, t1_0⟩ := hx1
  obtain ⟨A1_0, cp1_0, q1_0, hc1_0, hr1_0⟩ := g1_0
  subst q1_0
  have q1_1 : r1_0 = [.string x1.2] := t1_0
  subst q1_1
  obtain rfl : cs1 = #[.slice A1_0 x1.1.length cp1_0, .string x1.2] := by cases cs1; simpa [Value.cells] using e1_0
  clear hA0 hval0 hsz0
  obtain ⟨k, hp⟩ := pure_VersionBack a0 (x1.1) (x1.2) w0 (wx1.1) (wx1.2)
  refine (PVer.tithebarnlaw13_VersionBack.calls k a0 _ _ (x1.1) (x1.2) true W hr1_0 hc1_0 hTabs hp).mono fun e W' ⟨he, bel0⟩ => ?_
  have bel : Below W.heap.size W W' := bel0
  subst he
  exact ⟨_, rfl, _, _, _, [], _, [], hW', trodAll_mk1 (shut_bool Tryd.underlying4 _), (trodAll_cons_mk (shut_string Tryd.underlying9 w0) (trodAll_cons_mk (Below.trod laidOut (by kernel_rfl) (of_decide_eq_true (by kernel_rfl)) k1 bel lt1) trodAll_mk0)), rfl, bel.frame _, fun h => by cases h⟩
theorem said : Rows.VersionBackSaid :=
  OpenClaim.holds_of_cond 7 Tryd.f7 rfl rfl rfl rfl rfl rfl rfl ⟨rfl, rfl, rfl, rfl, rfl⟩ rfl rfl rfl rfl rfl (by kernel_rfl) Tryd.func7 (by kernel_rfl)
    (of_decide_eq_true (by kernel_rfl)) (by unfold Func.isWrapper; first | (rw [if_pos (by decide +kernel)]; kernel_rfl) | (rw [if_neg (by decide +kernel)]; exact ⟨rfl, rfl⟩))
    (fun os started H enc _ F => by rw [OpenClaim.pre_eq_preRow]; exact lifted os started H enc F)
theorem plain (f : FuncId) (fn : Func) (hf : Tryd.pinned.checked.prog.funcNamed "tithebarn/tithebarnlaw13.VersionBack" = some f) (hfn : Tryd.pinned.checked.prog.funcs[f]? = some fn) :
    true = Tryd.pinned.checked.prog.looks [] ∧ ∀ (j : Nat) t, fn.params[j]? = some t → Tryd.pinned.checked.prog.wantsStandIn t = false := by
  obtain rfl : f = 7 := Option.some.inj ((show Tryd.prog.funcNamed "tithebarn/tithebarnlaw13.VersionBack" = some 7 by kernel_rfl).symm.trans hf) |>.symm
  obtain rfl : fn = Tryd.f7 := (Option.some.inj (Tryd.func7.symm.trans hfn)).symm
  refine ⟨by kernel_rfl, fun j t ht => ?_⟩
  rw [Tryd.params7] at ht
  have hm : t ∈ #[9, 25] := Array.mem_of_getElem? ht
  simp only [List.mem_toArray, List.mem_cons, List.mem_nil_iff, or_false] at hm
  rcases hm with hm | hm
  · rw [hm]; exact (show Tryd.prog.wantsStandIn 9 = false by kernel_rfl)
  · rw [hm]; exact (show Tryd.prog.wantsStandIn 25 = false by kernel_rfl)
theorem card : Rows.VersionBackCardSaid :=
  Claim7.holds_tied_plain_at .later [] _ _ _ _ said (fun _ h => by cases h) (by kernel_rfl) (fun _ h => by cases h) versionBack_row_tie rfl ⟨rfl, rfl⟩ (by kernel_rfl) rfl plain (by kernel_rfl)
#print axioms card
end Go.Proofs.YtnbmdecehlljcaaDoor.versionBack
namespace Go.Proofs.YtnbmdecehlljcaaDoor
theorem versionBack_holds : Rows.VersionBackCardSaid := versionBack.card
end Go.Proofs.YtnbmdecehlljcaaDoor
