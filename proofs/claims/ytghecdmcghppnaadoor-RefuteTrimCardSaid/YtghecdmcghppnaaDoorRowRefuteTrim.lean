/- The statement RefuteTrim: whatever the input, the law answers true and its arguments read as they did. No condition. -/
import Derived.Test.YtghecdmcghppnaaDoorRows
import Derived.Test.YtghecdmcghppnaaDoorCards
import Derived.Test.YtghecdmcghppnaaDoorTie
import Derived.Test.YtghecdmcghppnaaDoorOpen
import Derived.Test.YtghecdmcghppnaaDoorPCnfx17
import Derived.Test.YtghecdmcghppnaaDoorRefW
import Derived.Test.YtghecdmcghppnaaDoorRefJ
import Derived.WalkKit
import Derived.ProofKit
import Derived.OpenShut
import Derived.ShutString
import Derived.ChangeOld
import Derived.Below
import Derived.SizedLaws
namespace Go.Proofs.YtghecdmcghppnaaDoor.refuteTrim
open Go.ChangeShapes Go.WideShapes Go.ChangeAt Go.RowKit Go.Proofs.YtghecdmcghppnaaDoorW.PrintWords
open Go.ChangeMaps (open_string shut_string)
set_option linter.unusedVariables false
set_option linter.unusedSimpArgs false
theorem op0 : Opens Tryd.prog 24 (Kd.pair (Kd.int .i64) (Kd.slice 40 (Kd.slice 3 (Kd.int .i64)))) (fun x => (Lit.int .i64 x.1).wf = true ∧ (x.2.length ≤ maxLen ∧ ∀ y0 ∈ x.2, (y0.length ≤ maxLen ∧ ∀ y1 ∈ y0, (Lit.int .i64 y1).wf = true))) := (opens_struct2 Tryd.underlying24 (by kernel_rfl) (by kernel_rfl) (by kernel_rfl) rfl rfl (opens_int Tryd.underlying3) (opens_slice Tryd.underlying22 (by kernel_rfl) (opens_slice Tryd.underlying40 (by kernel_rfl) (opens_int Tryd.underlying3))))
theorem op1 : Opens Tryd.prog 22 (Kd.slice 40 (Kd.slice 3 (Kd.int .i64))) (fun x => (x.length ≤ maxLen ∧ ∀ y0 ∈ x, (y0.length ≤ maxLen ∧ ∀ y1 ∈ y0, (Lit.int .i64 y1).wf = true))) := (opens_slice Tryd.underlying22 (by kernel_rfl) (opens_slice Tryd.underlying40 (by kernel_rfl) (opens_int Tryd.underlying3)))
set_option maxRecDepth 100000 in
theorem lifted (os : Os) (started : os.Started) (H : Type) (enc : TypeId × Value → H) (F : Stop.Interp) :
    ReturnsInHanded {} Tryd.checked os 4 .any ((OpenSpec.ofChange Rows.refuteTrimSpec).preRow enc Tryd.prog Tryd.f4 Rows.refuteTrimRow.domain false Rows.refuteTrimRow.laid) (((OpenSpec.ofChange Rows.refuteTrimSpec).at F).post enc Tryd.prog Tryd.f4 false true false false) := by
  refine returnsInHanded_of_row (C := Tryd.checked) (s := OpenSpec.ofChange Rows.refuteTrimSpec) own started (by kernel_rfl) Tryd.func4
    (witness_laid os #[.agg #[.int .i64 0, .slice none 0 0], .slice none 0 0] (by kernel_rfl) (by kernel_rfl) (fun k hk => by cases hk) (by kernel_rfl)) ?_
  intro W base args ds gs before hval0 hW hcnd _ hsz0 hL hSh _
  have hTabs := vtabs_of hL hSh
  show Calls Tryd.prog 4 args W fun e W' => ∃ v, e = .returned v ∧ Rows.refuteTrimSpec.post enc Tryd.prog Tryd.f4 false true false false W args v W'
  have hval : ∀ (j : Nat) t v, Tryd.f4.params[j]? = some t → args[j]? = some v → Value.okWide Tryd.prog W .any base t v := hval0
  have hW' := hW
  obtain ⟨p, q, hA0, hV, rfl, hfz, hnd⟩ := hW
  have hA : DataW.TrodAll enc Tryd.prog W 0 (fun _ => true) true Tryd.f4.params.toList args.toList ds p := hA0
  rw [Tryd.params4] at hA hval
  obtain ⟨v0, vs0, d0, ds0, p0, q0, hargs, rfl, rfl, h0, r0⟩ := trodAll_cons hA
  obtain ⟨v1, vs1, d1, ds1, p1, q1, rfl, rfl, rfl, h1, r1⟩ := trodAll_cons r0
  obtain ⟨rfl, rfl, rfl⟩ := trodAll_nil r1
  obtain rfl : args = #[v0, v1] := by cases args; simp_all
  obtain ⟨rfl, rfl⟩ := trodVars_none hV
  obtain ⟨cs0, rfl, hz0⟩ := okWide_struct Tryd.underlying24 (hval 0 24 v0 rfl rfl)
  have k0 := h0
  have lt0 : ∀ x ∈ p0, x.block < W.heap.size := by obtain ⟨m, hm⟩ := k0; exact DataW.trod_lt m _ _ _ hm
  obtain ⟨fuel0, hf0⟩ := h0
  obtain ⟨x0, hx0, wx0⟩ := op0 enc W _ _ _ fuel0 _ _ hf0
  obtain ⟨c0_0, r0_0, e0_0, g0_0, t0_0⟩ := hx0
  have q0_0 : c0_0 = [.int .i64 x0.1] := g0_0
  subst q0_0
  obtain ⟨A0_1, cp0_1, q0_1, hc0_1, hr0_1⟩ := t0_0
  subst q0_1
  obtain rfl : cs0 = #[.int .i64 x0.1, .slice A0_1 x0.2.length cp0_1] := by cases cs0; simpa [Value.cells] using e0_0
  obtain ⟨A1, len1, cap1, rfl⟩ := okWide_slice Tryd.underlying22 (hval 1 22 v1 rfl rfl)
  have k1 := h1
  have lt1 : ∀ x ∈ p1, x.block < W.heap.size := by obtain ⟨m, hm⟩ := k1; exact DataW.trod_lt m _ _ _ hm
  obtain ⟨fuel1, hf1⟩ := h1
  obtain ⟨l1, ⟨A1', c1', he1, hc1, hr1⟩, w1⟩ := op1 enc W _ _ _ fuel1 _ _ hf1
  simp [Value.cells] at he1
  obtain ⟨rfl, rfl, rfl⟩ := he1
  clear hA0 hval0 hsz0
  obtain ⟨k, hp⟩ := RefuteTrim_pure (x0.1) (x0.2) l1 (wx0.1) (wx0.2) w1
  refine (PCnf.tithebarnlaw18_RefuteTrim.calls k (x0.1) _ _ (x0.2) _ _ l1 true W hr0_1 hc0_1 hr1 hc1 hTabs hp).mono fun e W' ⟨he, bel0⟩ => ?_
  have bel : Below W.heap.size W W' := bel0
  subst he
  exact ⟨_, rfl, _, _, _, [], _, [], hW', trodAll_mk1 (shut_bool Tryd.underlying4 _), (trodAll_cons_mk (Below.trod laidOut (by kernel_rfl) (of_decide_eq_true (by kernel_rfl)) k0 bel lt0) (trodAll_cons_mk (Below.trod laidOut (by kernel_rfl) (of_decide_eq_true (by kernel_rfl)) k1 bel lt1) trodAll_mk0)), rfl, bel.frame _, fun h => by cases h⟩
theorem said : Rows.RefuteTrimSaid :=
  OpenClaim.holds_of_cond 4 Tryd.f4 rfl rfl rfl rfl rfl rfl rfl ⟨rfl, rfl, rfl, rfl, rfl⟩ rfl rfl rfl rfl rfl (by kernel_rfl) Tryd.func4 (by kernel_rfl)
    (of_decide_eq_true (by kernel_rfl)) (by unfold Func.isWrapper; first | (rw [if_pos (by decide +kernel)]; kernel_rfl) | (rw [if_neg (by decide +kernel)]; exact ⟨rfl, rfl⟩))
    (fun os started H enc _ F => by rw [OpenClaim.pre_eq_preRow]; exact lifted os started H enc F)
theorem plain (f : FuncId) (fn : Func) (hf : Tryd.pinned.checked.prog.funcNamed "tithebarn/tithebarnlaw18.RefuteTrim" = some f) (hfn : Tryd.pinned.checked.prog.funcs[f]? = some fn) :
    true = Tryd.pinned.checked.prog.looks [] ∧ ∀ (j : Nat) t, fn.params[j]? = some t → Tryd.pinned.checked.prog.wantsStandIn t = false := by
  obtain rfl : f = 4 := Option.some.inj ((show Tryd.prog.funcNamed "tithebarn/tithebarnlaw18.RefuteTrim" = some 4 by kernel_rfl).symm.trans hf) |>.symm
  obtain rfl : fn = Tryd.f4 := (Option.some.inj (Tryd.func4.symm.trans hfn)).symm
  refine ⟨by kernel_rfl, fun j t ht => ?_⟩
  rw [Tryd.params4] at ht
  have hm : t ∈ #[24, 22] := Array.mem_of_getElem? ht
  simp only [List.mem_toArray, List.mem_cons, List.mem_nil_iff, or_false] at hm
  rcases hm with hm | hm
  · rw [hm]; exact (show Tryd.prog.wantsStandIn 24 = false by kernel_rfl)
  · rw [hm]; exact (show Tryd.prog.wantsStandIn 22 = false by kernel_rfl)
theorem card : Rows.RefuteTrimCardSaid :=
  Claim7.holds_tied_plain_at .later [] _ _ _ _ said (fun _ h => by cases h) (by kernel_rfl) (fun _ h => by cases h) refuteTrim_row_tie rfl ⟨rfl, rfl⟩ (by kernel_rfl) rfl plain (by kernel_rfl)
#print axioms card
end Go.Proofs.YtghecdmcghppnaaDoor.refuteTrim
namespace Go.Proofs.YtghecdmcghppnaaDoor
theorem refuteTrim_holds : Rows.RefuteTrimCardSaid := refuteTrim.card
end Go.Proofs.YtghecdmcghppnaaDoor
