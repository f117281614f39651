/- The statement RangesAllows: whatever the input, the law answers true and its arguments read as they did. No condition. -/
import Derived.Test.YtnbmdecehlljcaaGreatDoorRows
import Derived.Test.YtnbmdecehlljcaaGreatDoorCards
import Derived.Test.YtnbmdecehlljcaaGreatDoorTie
import Derived.Test.YtnbmdecehlljcaaGreatDoorOpen
import Derived.Test.YtnbmdecehlljcaaGreatDoorPRqx24
import Derived.Test.YtnbmdecehlljcaaGreatDoorRngY
import Derived.Test.YtnbmdecehlljcaaGreatDoorRngX3
import Derived.WalkKit
import Derived.ProofKit
import Derived.OpenShut
import Derived.ShutString
import Derived.ChangeOld
import Derived.Below
import Derived.SizedLaws
namespace Go.Proofs.YtnbmdecehlljcaaGreatDoor.rangesAllows
open Go.ChangeShapes Go.WideShapes Go.ChangeAt Go.RowKit Go.Proofs.YtnbmdecehlljcaaGreatDoorW.PrintWords
open Go.ChangeMaps (open_string shut_string)
set_option linter.unusedVariables false
set_option linter.unusedSimpArgs false
theorem op0 : Opens Tryz.prog 42 (Kd.slice 47 (Kd.slice 59 PRq.k59)) (fun x => (x.length ≤ maxLen ∧ ∀ y0 ∈ x, (y0.length ≤ maxLen ∧ ∀ y1 ∈ y0, ((Lit.int .u8 y1.f0).wf = true ∧ y1.f1.size ≤ maxLen)))) := (opens_slice Tryz.underlying42 (by kernel_rfl) (opens_slice Tryz.underlying47 (by kernel_rfl) (opens_iso (fun p => ⟨p.1, p.2⟩) (fun _ => rfl) (opens_struct2 Tryz.underlying59 (by kernel_rfl) (by kernel_rfl) (by kernel_rfl) rfl rfl (opens_int Tryz.underlying5) (opens_string Tryz.underlying9)))))
theorem op1 : Opens Tryz.prog 33 (Kd.slice 9 Kd.string) (fun x => (x.length ≤ maxLen ∧ ∀ y0 ∈ x, y0.size ≤ maxLen)) := (opens_slice Tryz.underlying33 (by kernel_rfl) (opens_string Tryz.underlying9))
set_option maxRecDepth 100000 in
theorem lifted (os : Os) (started : os.Started) (H : Type) (enc : TypeId × Value → H) (F : Stop.Interp) :
    ReturnsInHanded {} Tryz.checked os 7 .any ((OpenSpec.ofChange Rows.rangesAllowsSpec).preRow enc Tryz.prog Tryz.f7 Rows.rangesAllowsRow.domain false Rows.rangesAllowsRow.laid) (((OpenSpec.ofChange Rows.rangesAllowsSpec).at F).post enc Tryz.prog Tryz.f7 false true false false) := by
  refine returnsInHanded_of_row (C := Tryz.checked) (s := OpenSpec.ofChange Rows.rangesAllowsSpec) own started (by kernel_rfl) Tryz.func7
    (witness_laid os #[.slice none 0 0, .slice none 0 0] (by kernel_rfl) (by kernel_rfl) (fun k hk => by cases hk) (by kernel_rfl)) ?_
  intro W base args ds gs before hval0 hW hcnd _ hsz0 hL hSh _
  have hTabs := vtabs_of hL hSh
  show Calls Tryz.prog 7 args W fun e W' => ∃ v, e = .returned v ∧ Rows.rangesAllowsSpec.post enc Tryz.prog Tryz.f7 false true false false W args v W'
  have hval : ∀ (j : Nat) t v, Tryz.f7.params[j]? = some t → args[j]? = some v → Value.okWide Tryz.prog W .any base t v := hval0
  have hW' := hW
  obtain ⟨p, q, hA0, hV, rfl, hfz, hnd⟩ := hW
  have hA : DataW.TrodAll enc Tryz.prog W 0 (fun _ => true) true Tryz.f7.params.toList args.toList ds p := hA0
  rw [Tryz.params7] at hA hval
  obtain ⟨v0, vs0, d0, ds0, p0, q0, hargs, rfl, rfl, h0, r0⟩ := trodAll_cons hA
  obtain ⟨v1, vs1, d1, ds1, p1, q1, rfl, rfl, rfl, h1, r1⟩ := trodAll_cons r0
  obtain ⟨rfl, rfl, rfl⟩ := trodAll_nil r1
  obtain rfl : args = #[v0, v1] := by cases args; simp_all
  obtain ⟨rfl, rfl⟩ := trodVars_none hV
  obtain ⟨A0, len0, cap0, rfl⟩ := okWide_slice Tryz.underlying42 (hval 0 42 v0 rfl rfl)
  have k0 := h0
  have lt0 : ∀ x ∈ p0, x.block < W.heap.size := by obtain ⟨m, hm⟩ := k0; exact DataW.trod_lt m _ _ _ hm
  obtain ⟨fuel0, hf0⟩ := h0
  obtain ⟨l0, ⟨A0', c0', he0, hc0, hr0⟩, w0⟩ := op0 enc W _ _ _ fuel0 _ _ hf0
  simp [Value.cells] at he0
  obtain ⟨rfl, rfl, rfl⟩ := he0
  obtain ⟨A1, len1, cap1, rfl⟩ := okWide_slice Tryz.underlying33 (hval 1 33 v1 rfl rfl)
  have k1 := h1
  have lt1 : ∀ x ∈ p1, x.block < W.heap.size := by obtain ⟨m, hm⟩ := k1; exact DataW.trod_lt m _ _ _ hm
  obtain ⟨fuel1, hf1⟩ := h1
  obtain ⟨l1, ⟨A1', c1', he1, hc1, hr1⟩, w1⟩ := op1 enc W _ _ _ fuel1 _ _ hf1
  simp [Value.cells] at he1
  obtain ⟨rfl, rfl, rfl⟩ := he1
  clear hA0 hval0 hsz0
  obtain ⟨k, hp⟩ := pure_RangesAllows l0 l1 w0 w1
  refine (PRq.tithebarnlaw14_RangesAllows.calls k _ _ l0 _ _ l1 true W hr0 hc0 hr1 hc1 hTabs hp).mono fun e W' ⟨he, bel0⟩ => ?_
  have bel : Below W.heap.size W W' := bel0
  subst he
  exact ⟨_, rfl, _, _, _, [], _, [], hW', trodAll_mk1 (shut_bool Tryz.underlying4 _), (trodAll_cons_mk (Below.trod laidOut (by kernel_rfl) (of_decide_eq_true (by kernel_rfl)) k0 bel lt0) (trodAll_cons_mk (Below.trod laidOut (by kernel_rfl) (of_decide_eq_true (by kernel_rfl)) k1 bel lt1) trodAll_mk0)), rfl, bel.frame _, fun h => by cases h⟩
theorem said : Rows.RangesAllowsSaid :=
  OpenClaim.holds_of_cond 7 Tryz.f7 rfl rfl rfl rfl rfl rfl rfl ⟨rfl, rfl, rfl, rfl, rfl⟩ rfl rfl rfl rfl rfl (by kernel_rfl) Tryz.func7 (by kernel_rfl)
    (of_decide_eq_true (by kernel_rfl)) (by unfold Func.isWrapper; first | (rw [if_pos (by decide +kernel)]; kernel_rfl) | (rw [if_neg (by decide +kernel)]; exact ⟨rfl, rfl⟩))
    (fun os started H enc _ F => by rw [OpenClaim.pre_eq_preRow]; exact lifted os started H enc F)
theorem plain (f : FuncId) (fn : Func) (hf : Tryz.pinned.checked.prog.funcNamed "tithebarn/tithebarnlaw14.RangesAllows" = some f) (hfn : Tryz.pinned.checked.prog.funcs[f]? = some fn) :
    true = Tryz.pinned.checked.prog.looks [] ∧ ∀ (j : Nat) t, fn.params[j]? = some t → Tryz.pinned.checked.prog.wantsStandIn t = false := by
  obtain rfl : f = 7 := Option.some.inj ((show Tryz.prog.funcNamed "tithebarn/tithebarnlaw14.RangesAllows" = some 7 by kernel_rfl).symm.trans hf) |>.symm
  obtain rfl : fn = Tryz.f7 := (Option.some.inj (Tryz.func7.symm.trans hfn)).symm
  refine ⟨by kernel_rfl, fun j t ht => ?_⟩
  rw [Tryz.params7] at ht
  have hm : t ∈ #[42, 33] := Array.mem_of_getElem? ht
  simp only [List.mem_toArray, List.mem_cons, List.mem_nil_iff, or_false] at hm
  rcases hm with hm | hm
  · rw [hm]; exact (show Tryz.prog.wantsStandIn 42 = false by kernel_rfl)
  · rw [hm]; exact (show Tryz.prog.wantsStandIn 33 = false by kernel_rfl)
theorem card : Rows.RangesAllowsCardSaid :=
  Claim7.holds_tied_plain_at .later [] _ _ _ _ said (fun _ h => by cases h) (by kernel_rfl) (fun _ h => by cases h) rangesAllows_row_tie rfl ⟨rfl, rfl⟩ (by kernel_rfl) rfl plain (by kernel_rfl)
#print axioms card
end Go.Proofs.YtnbmdecehlljcaaGreatDoor.rangesAllows
namespace Go.Proofs.YtnbmdecehlljcaaGreatDoor
theorem rangesAllows_holds : Rows.RangesAllowsCardSaid := rangesAllows.card
end Go.Proofs.YtnbmdecehlljcaaGreatDoor
