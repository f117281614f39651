/- The statement VersionPrint: whatever the input, the law answers true and its arguments read as they did. No condition. -/
import Derived.Test.YtnbmdecehlljcaaGreatDoorRows
import Derived.Test.YtnbmdecehlljcaaGreatDoorCards
import Derived.Test.YtnbmdecehlljcaaGreatDoorTie
import Derived.Test.YtnbmdecehlljcaaGreatDoorOpen
import Derived.Test.YtnbmdecehlljcaaGreatDoorPVerx5
import Derived.Test.YtnbmdecehlljcaaGreatDoorVerW
import Derived.Test.YtnbmdecehlljcaaGreatDoorVerX
import Derived.WalkKit
import Derived.ProofKit
import Derived.OpenShut
import Derived.ShutString
import Derived.ChangeOld
import Derived.Below
import Derived.SizedLaws
namespace Go.Proofs.YtnbmdecehlljcaaGreatDoor.versionPrint
open Go.ChangeShapes Go.WideShapes Go.ChangeAt Go.RowKit Go.Proofs.YtnbmdecehlljcaaGreatDoorW.PrintWords
open Go.ChangeMaps (open_string shut_string)
set_option linter.unusedVariables false
set_option linter.unusedSimpArgs false
theorem op0 : Opens Tryz.prog 24 (Kd.pair (Kd.slice 3 (Kd.int .i64)) Kd.string) (fun x => (x.1.length ≤ maxLen ∧ ∀ y0 ∈ x.1, (Lit.int .i64 y0).wf = true) ∧ x.2.size ≤ maxLen) := (opens_struct2 Tryz.underlying24 (by kernel_rfl) (by kernel_rfl) (by kernel_rfl) rfl rfl (opens_slice Tryz.underlying22 (by kernel_rfl) (opens_int Tryz.underlying3)) (opens_string Tryz.underlying9))
set_option maxRecDepth 100000 in
theorem lifted (os : Os) (started : os.Started) (H : Type) (enc : TypeId × Value → H) (F : Stop.Interp) :
    ReturnsInHanded {} Tryz.checked os 3 .any ((OpenSpec.ofChange Rows.versionPrintSpec).preRow enc Tryz.prog Tryz.f3 Rows.versionPrintRow.domain false Rows.versionPrintRow.laid) (((OpenSpec.ofChange Rows.versionPrintSpec).at F).post enc Tryz.prog Tryz.f3 false true false false) := by
  refine returnsInHanded_of_row (C := Tryz.checked) (s := OpenSpec.ofChange Rows.versionPrintSpec) own started (by kernel_rfl) Tryz.func3
    (witness_laid os #[.agg #[.slice none 0 0, .string ByteArray.empty]] (by kernel_rfl) (by kernel_rfl) (fun k hk => by cases hk) (by kernel_rfl)) ?_
  intro W base args ds gs before hval0 hW hcnd _ hsz0 hL hSh _
  have hTabs := vtabs_of hL hSh
  show Calls Tryz.prog 3 args W fun e W' => ∃ v, e = .returned v ∧ Rows.versionPrintSpec.post enc Tryz.prog Tryz.f3 false true false false W args v W'
  have hval : ∀ (j : Nat) t v, Tryz.f3.params[j]? = some t → args[j]? = some v → Value.okWide Tryz.prog W .any base t v := hval0
  have hW' := hW
  obtain ⟨p, q, hA0, hV, rfl, hfz, hnd⟩ := hW
  have hA : DataW.TrodAll enc Tryz.prog W 0 (fun _ => true) true Tryz.f3.params.toList args.toList ds p := hA0
  rw [Tryz.params3] at hA hval
  obtain ⟨v0, vs0, d0, ds0, p0, q0, hargs, rfl, rfl, h0, r0⟩ := trodAll_cons hA
  obtain ⟨rfl, rfl, rfl⟩ := trodAll_nil r0
  obtain rfl : args = #[v0] := by cases args; simp_all
  obtain ⟨rfl, rfl⟩ := trodVars_none hV
  obtain ⟨cs0, rfl, hz0⟩ := okWide_struct Tryz.underlying24 (hval 0 24 v0 rfl rfl)
  have k0 := h0
  have lt0 : ∀ x ∈ p0, x.block < W.heap.size := by obtain ⟨m, hm⟩ := k0; exact DataW.trod_lt m _ _ _ hm
  obtain ⟨fuel0, hf0⟩ := h0
  obtain ⟨x0, hx0, wx0⟩ := op0 enc W _ _ _ fuel0 _ _ hf0
  obtain ⟨c0_0, r0_0, e0_0, g0_0, t0_0⟩ := hx0
  obtain ⟨A0_0, cp0_0, q0_0, hc0_0, hr0_0⟩ := g0_0
  subst q0_0
  have q0_1 : r0_0 = [.string x0.2] := t0_0
  subst q0_1
  obtain rfl : cs0 = #[.slice A0_0 x0.1.length cp0_0, .string x0.2] := by cases cs0; simpa [Value.cells] using e0_0
  clear hA0 hval0 hsz0
  obtain ⟨k, hp⟩ := pure_VersionPrint (x0.1) (x0.2) (wx0.1) (wx0.2)
  refine (PVer.tithebarnlaw13_VersionPrint.calls k _ _ (x0.1) (x0.2) true W hr0_0 hc0_0 hTabs hp).mono fun e W' ⟨he, bel0⟩ => ?_
  have bel : Below W.heap.size W W' := bel0
  subst he
  exact ⟨_, rfl, _, _, _, [], _, [], hW', trodAll_mk1 (shut_bool Tryz.underlying4 _), (trodAll_cons_mk (Below.trod laidOut (by kernel_rfl) (of_decide_eq_true (by kernel_rfl)) k0 bel lt0) trodAll_mk0), rfl, bel.frame _, fun h => by cases h⟩
theorem said : Rows.VersionPrintSaid :=
  OpenClaim.holds_of_cond 3 Tryz.f3 rfl rfl rfl rfl rfl rfl rfl ⟨rfl, rfl, rfl, rfl, rfl⟩ rfl rfl rfl rfl rfl (by kernel_rfl) Tryz.func3 (by kernel_rfl)
    (of_decide_eq_true (by kernel_rfl)) (by unfold Func.isWrapper; first | (rw [if_pos (by decide +kernel)]; kernel_rfl) | (rw [if_neg (by decide +kernel)]; exact ⟨rfl, rfl⟩))
    (fun os started H enc _ F => by rw [OpenClaim.pre_eq_preRow]; exact lifted os started H enc F)
theorem plain (f : FuncId) (fn : Func) (hf : Tryz.pinned.checked.prog.funcNamed "tithebarn/tithebarnlaw13.VersionPrint" = some f) (hfn : Tryz.pinned.checked.prog.funcs[f]? = some fn) :
    true = Tryz.pinned.checked.prog.looks [] ∧ ∀ (j : Nat) t, fn.params[j]? = some t → Tryz.pinned.checked.prog.wantsStandIn t = false := by
  obtain rfl : f = 3 := Option.some.inj ((show Tryz.prog.funcNamed "tithebarn/tithebarnlaw13.VersionPrint" = some 3 by kernel_rfl).symm.trans hf) |>.symm
  obtain rfl : fn = Tryz.f3 := (Option.some.inj (Tryz.func3.symm.trans hfn)).symm
  refine ⟨by kernel_rfl, fun j t ht => ?_⟩
  rw [Tryz.params3] at ht
  have hm : t ∈ #[24] := Array.mem_of_getElem? ht
  simp only [List.mem_toArray, List.mem_cons, List.mem_nil_iff, or_false] at hm
  rcases hm with hm
  · rw [hm]; exact (show Tryz.prog.wantsStandIn 24 = false by kernel_rfl)
theorem card : Rows.VersionPrintCardSaid :=
  Claim7.holds_tied_plain_at .later [] _ _ _ _ said (fun _ h => by cases h) (by kernel_rfl) (fun _ h => by cases h) versionPrint_row_tie rfl ⟨rfl, rfl⟩ (by kernel_rfl) rfl plain (by kernel_rfl)
#print axioms card
end Go.Proofs.YtnbmdecehlljcaaGreatDoor.versionPrint
namespace Go.Proofs.YtnbmdecehlljcaaGreatDoor
theorem versionPrint_holds : Rows.VersionPrintCardSaid := versionPrint.card
end Go.Proofs.YtnbmdecehlljcaaGreatDoor
