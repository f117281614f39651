/- The tables of ranges; strings.Fields at the one text that ranges cuts. -/
import Derived.Test.YtnbmdecehlljcaaGreatDoorVerZ
import Derived.Test.YtnbmdecehlljcaaGreatDoorRnO
import Derived.Test.YtnbmdecehlljcaaGreatDoorWRepsOne
namespace Go.Proofs.YtnbmdecehlljcaaGreatDoor
open Go.RowKit Go.Shelf Go.Proofs.YtnbmdecehlljcaaGreatDoorW.PrintWords Go.Proofs.YtnbmdecehlljcaaGreatDoorW.PrintLast Go.Proofs.YtnbmdecehlljcaaGreatDoorW.PrintMore
set_option linter.unusedVariables false
set_option linter.unusedSimpArgs false
structure RTabs (W : World) : Prop where
  v : VTabs W
  sp : Lib.TabIs Tryz.prog W "strings.asciiSpace" .u8 Lib.asciiSpaceTab
theorem RTabs.below {W W' : World} (h : RTabs W) (hb : Below W.heap.size W W') : RTabs W' := ⟨h.v.below hb, Lib.tabBelow_of_tabIs h.sp W' hb⟩
def signsT : ByteArray := ⟨#[42, 32, 61, 32, 33, 61, 32, 60, 32, 60, 61, 32, 62, 32, 62, 61, 32, 126]⟩
def signsL : List ByteArray := [⟨#[42]⟩, ⟨#[61]⟩, ⟨#[33, 61]⟩, ⟨#[60]⟩, ⟨#[60, 61]⟩, ⟨#[62]⟩, ⟨#[62, 61]⟩, ⟨#[126]⟩]
def strings_Fields.f (a0 : ByteArray) : Option (List ByteArray) := if a0 = signsT then some signsL else none
theorem fields_signs0 : Lib.fields signsT.data.toList = signsL.map (·.data.toList) := by decide
theorem fields_signs : (Lib.fields signsT.data.toList).map (fun l => Value.string ⟨l.toArray⟩) = signsL.map Value.string := by rw [fields_signs0]; rfl
theorem signs_ascii : ∀ b ∈ signsT.data.toList, b.toNat < 128 := by decide
theorem strings_Fields.calls (a0 : ByteArray) (r : List ByteArray) (w : World) (hT : RTabs w) (h : strings_Fields.f a0 = some r) :
    Calls Tryz.prog 55 #[.string a0] w fun e w' => ∃ v0_ : Value, e = .returned (v0_) ∧ Kd.R Kd.string 9 w' w.heap.size (fun _ => True) v0_ r ∧ Below w.heap.size w w' := by
  unfold strings_Fields.f at h
  by_cases h0 : a0 = signsT
  · rw [if_pos h0] at h
    obtain rfl := Option.some.inj h
    subst h0
    refine (Tryz.strings_Fields_laid signsT w (by decide) (fun j b hb => signs_ascii b (List.mem_of_getElem? hb)) hT.sp).mono fun e w' ⟨he, hw⟩ => ?_
    subst he
    subst hw
    rw [fields_signs]
    have hl : (Lib.fields signsT.data.toList).length = signsL.length := by have := congrArg List.length fields_signs; simpa using this
    rw [hl]
    refine ⟨_, rfl, ⟨fun _ _ => trivial, signsL.map Value.string, ⟨rfl, .inr ⟨w.heap.size, signsL.length, _, rfl, Nat.le_refl _, World.alloc_heap_new w _, Nat.le_refl _, by decide, rfl, rfl⟩⟩, ?_⟩, (Below.refl _ _).alloc (Nat.le_refl _) _⟩
    exact (Reps.one rfl (Reps.one rfl (Reps.one rfl (Reps.one rfl (Reps.one rfl (Reps.one rfl (Reps.one rfl (Reps.one rfl (Reps.none _ _)))))))))
  · rw [if_neg h0] at h
    cases h
end Go.Proofs.YtnbmdecehlljcaaGreatDoor
