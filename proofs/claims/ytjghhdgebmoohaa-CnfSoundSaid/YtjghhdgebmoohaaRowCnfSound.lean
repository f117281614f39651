/- The statement CnfSound: whatever the input, the law answers true and its arguments read as they did. No condition. -/
import Derived.Test.YtjghhdgebmoohaaRows
import Derived.Test.YtjghhdgebmoohaaOpen
import Derived.Test.YtjghhdgebmoohaaPCnfx9
import Derived.Test.YtjghhdgebmoohaaPureC
import Derived.WalkKit
import Derived.ProofKit
import Derived.OpenShut
import Derived.ShutString
import Derived.ChangeOld
import Derived.Below
import Derived.SizedLaws
namespace Go.Proofs.Ytjghhdgebmoohaa.cnfSound
open Go.ChangeShapes Go.WideShapes Go.ChangeAt Go.RowKit Go.Proofs.YtjghhdgebmoohaaW.PrintWords
open Go.ChangeMaps (open_string shut_string)
set_option linter.unusedVariables false
theorem own : ownKnob Try.prog.godebug = none := by kernel_rfl
theorem laidOut : laidOutB Try.prog = true := by kernel_rfl
theorem op0 : Opens Try.prog 24 (Kd.pair (Kd.int .i64) (Kd.slice 35 (Kd.slice 3 (Kd.int .i64)))) (fun x => (Lit.int .i64 x.1).wf = true ∧ (x.2.length ≤ maxLen ∧ ∀ y0 ∈ x.2, (y0.length ≤ maxLen ∧ ∀ y1 ∈ y0, (Lit.int .i64 y1).wf = true))) := (opens_struct2 Try.underlying24 (by kernel_rfl) (by kernel_rfl) (by kernel_rfl) rfl rfl (opens_int Try.underlying3) (opens_slice Try.underlying22 (by kernel_rfl) (opens_slice Try.underlying35 (by kernel_rfl) (opens_int Try.underlying3))))
theorem op1 : Opens Try.prog 35 (Kd.slice 3 (Kd.int .i64)) (fun x => (x.length ≤ maxLen ∧ ∀ y0 ∈ x, (Lit.int .i64 y0).wf = true)) := (opens_slice Try.underlying35 (by kernel_rfl) (opens_int Try.underlying3))
theorem op2 : Opens Try.prog 40 (Kd.slice 4 Kd.bool) (fun x => (x.length ≤ maxLen ∧ ∀ y0 ∈ x, True)) := (opens_slice Try.underlying40 (by kernel_rfl) (opens_bool Try.underlying4))
set_option maxRecDepth 100000 in
theorem lifted (os : Os) (started : os.Started) (H : Type) (enc : TypeId × Value → H) :
    ReturnsInHanded {} Try.checked os 7 .any (Rows.cnfSoundSpec.pre6 enc Try.prog Try.f7 Rows.cnfSoundRow.domain false) (Rows.cnfSoundSpec.post enc Try.prog Try.f7 false true false false) := by
  refine returnsInHanded_of_change_sized (C := Try.checked) own started (by kernel_rfl) Try.func7
    (ChangeSpec.witness6 (enc := enc) (C := Try.checked) false ⟨#[], #[.agg #[.int .i64 0, .slice none 0 0], .slice none 0 0, .slice none 0 0], []⟩ 8 (by kernel_rfl) (by kernel_rfl) (by kernel_rfl) (by kernel_rfl)) ?_
  intro W base args ds gs before hval0 hW hcnd hsz0 _
  have hval : ∀ (j : Nat) t v, Try.f7.params[j]? = some t → args[j]? = some v → Value.okWide Try.prog W .any base t v := hval0
  have hW' := hW
  obtain ⟨p, q, hA0, hV, rfl, hfz, hnd⟩ := hW
  have hA : DataW.TrodAll enc Try.prog W 0 (fun _ => true) true Try.f7.params.toList args.toList ds p := hA0
  rw [Try.params7] at hA hval
  obtain ⟨v0, vs0, d0, ds0, p0, q0, hargs, rfl, rfl, h0, r0⟩ := trodAll_cons hA
  obtain ⟨v1, vs1, d1, ds1, p1, q1, rfl, rfl, rfl, h1, r1⟩ := trodAll_cons r0
  obtain ⟨v2, vs2, d2, ds2, p2, q2, rfl, rfl, rfl, h2, r2⟩ := trodAll_cons r1
  obtain ⟨rfl, rfl, rfl⟩ := trodAll_nil r2
  obtain rfl : args = #[v0, v1, v2] := by cases args; simp_all
  obtain ⟨rfl, rfl⟩ := trodVars_none hV
  obtain ⟨cs0, rfl, hz0⟩ := okWide_struct Try.underlying24 (hval 0 24 v0 rfl rfl)
  have k0 := h0
  have lt0 : ∀ x ∈ p0, x.block < W.heap.size := by obtain ⟨m, hm⟩ := k0; exact DataW.trod_lt m _ _ _ hm
  obtain ⟨fuel0, hf0⟩ := h0
  obtain ⟨x0, hx0, wx0⟩ := op0 enc W _ _ _ fuel0 _ _ hf0
  obtain ⟨c0_0, r0_0, e0_0, g0_0, t0_0⟩ := hx0
  have q0_0 : c0_0 = [.int .i64 x0.1] := g0_0
  subst q0_0
  obtain ⟨A0_1, cp0_1, q0_1, hc0_1, hr0_1⟩ := t0_0
  subst q0_1
  obtain rfl : cs0 = #[.int .i64 x0.1, .slice A0_1 x0.2.length cp0_1] := by cases cs0; simpa [Value.cells] using e0_0
  obtain ⟨A1, len1, cap1, rfl⟩ := okWide_slice Try.underlying35 (hval 1 35 v1 rfl rfl)
  have k1 := h1
  have lt1 : ∀ x ∈ p1, x.block < W.heap.size := by obtain ⟨m, hm⟩ := k1; exact DataW.trod_lt m _ _ _ hm
  obtain ⟨fuel1, hf1⟩ := h1
  obtain ⟨l1, ⟨A1', c1', he1, hc1, hr1⟩, w1⟩ := op1 enc W _ _ _ fuel1 _ _ hf1
  simp [Value.cells] at he1
  obtain ⟨rfl, rfl, rfl⟩ := he1
  obtain ⟨A2, len2, cap2, rfl⟩ := okWide_slice Try.underlying40 (hval 2 40 v2 rfl rfl)
  have k2 := h2
  have lt2 : ∀ x ∈ p2, x.block < W.heap.size := by obtain ⟨m, hm⟩ := k2; exact DataW.trod_lt m _ _ _ hm
  obtain ⟨fuel2, hf2⟩ := h2
  obtain ⟨l2, ⟨A2', c2', he2, hc2, hr2⟩, w2⟩ := op2 enc W _ _ _ fuel2 _ _ hf2
  simp [Value.cells] at he2
  obtain ⟨rfl, rfl, rfl⟩ := he2
  clear hA0 hval0 hsz0
  obtain ⟨k, hp⟩ := CnfSound_pure (x0.1) (x0.2) l1 l2 (wx0.1) (wx0.2) w1 w2
  refine (PCnf.tithebarnlaw16_CnfSound.calls k (x0.1) _ _ (x0.2) _ _ l1 _ _ l2 true W hr0_1 hc0_1 hr1 hc1 hr2 hc2 hp).mono fun e W' ⟨he, bel0⟩ => ?_
  have bel : Below W.heap.size W W' := bel0
  subst he
  exact ⟨_, rfl, _, _, _, [], _, [], hW', trodAll_mk1 (shut_bool Try.underlying4 _), (trodAll_cons_mk (Below.trod laidOut (by kernel_rfl) (of_decide_eq_true (by kernel_rfl)) k0 bel lt0) (trodAll_cons_mk (Below.trod laidOut (by kernel_rfl) (of_decide_eq_true (by kernel_rfl)) k1 bel lt1) (trodAll_cons_mk (Below.trod laidOut (by kernel_rfl) (of_decide_eq_true (by kernel_rfl)) k2 bel lt2) trodAll_mk0))), rfl, bel.frame _, fun h => by cases h⟩
theorem over : Rows.cnfSoundRow.holds Try.pinned (OpenSpec.ofChange Rows.cnfSoundSpec) :=
  OpenClaim.holds_of_wide 7 Try.f7 rfl rfl rfl rfl rfl rfl rfl ⟨rfl, rfl, rfl, rfl, rfl⟩ rfl rfl rfl rfl rfl (by kernel_rfl) Try.func7 (by kernel_rfl)
    (of_decide_eq_true (by kernel_rfl)) (by unfold Func.isWrapper; first | (rw [if_pos (by decide +kernel)]; kernel_rfl) | (rw [if_neg (by decide +kernel)]; exact ⟨rfl, rfl⟩))
    (fun os started H enc _ => lifted os started H enc)
theorem proved : Rows.CnfSoundSaid := over
#print axioms proved
end Go.Proofs.Ytjghhdgebmoohaa.cnfSound
namespace Go.Proofs.Ytjghhdgebmoohaa
theorem cnfSound_holds : Rows.CnfSoundSaid := cnfSound.proved
end Go.Proofs.Ytjghhdgebmoohaa
