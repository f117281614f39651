-- Laid by a program of this session (wip/tools/pgiven.py) out of the seat's translation. Lean checks it.
import Derived.Test.YtnbmdecehlljcaaGreatDoorPVerx0
import Derived.Test.YtnbmdecehlljcaaGreatDoorPVerx5
import Derived.Test.YtnbmdecehlljcaaGreatDoorPVerx7
import Derived.Test.YtnbmdecehlljcaaGreatDoorPVerx9
import Derived.Test.YtnbmdecehlljcaaGreatDoorPVerx10
import Derived.Test.YtnbmdecehlljcaaGreatDoorPVerx15
import Derived.Test.YtnbmdecehlljcaaGreatDoorPVerx17
import Derived.Test.YtnbmdecehlljcaaGreatDoorPVerx18
import Derived.Test.YtnbmdecehlljcaaGreatDoorVerKm
import Derived.Test.YtnbmdecehlljcaaGreatDoorWRepsOne
import Derived.Test.YtnbmdecehlljcaaGreatDoorWGuard
namespace Go.Proofs.YtnbmdecehlljcaaGreatDoor.PVer
open Go.RowKit Go.Proofs.YtnbmdecehlljcaaGreatDoorW.PrintWords Go.Proofs.YtnbmdecehlljcaaGreatDoorW.PrintLast Go.Proofs.YtnbmdecehlljcaaGreatDoorW.PrintMore
attribute [local go_sem] max2_int min2_int max_two min_two max_three min_three max_four min_four   -- for this text's walks alone
set_option linter.unusedVariables false
set_option linter.unusedSimpArgs false

attribute [local go_sem] isSome_setCellV
/-! ### tithebarnlaw13_VersionKnown: function 4 -/
mutual
def tithebarnlaw13_VersionKnown.l0 : Nat → List ByteArray → List ByteArray → Int → Option (Bool)
  | 0, _, _, _ => none
  | k + 1, x1, x2, x3 => if x3 < (x1.length : Int) then (if 0 ≤ x3 then ((tithebarnref13_Parse.f k (rdOf ByteArray.empty x1 x3)).bind fun bt284 => ((tithebarnlaw13_VersionParse.f k (rdOf ByteArray.empty x1 x3)).bind fun t292 => (if t292 = true then ((tithebarnlaw13_VersionBack.f k (rdOf ByteArray.empty x1 x3) bt284.1 bt284.2.1).bind fun t294 => (if t294 = true then ((tithebarnlaw13_VersionPrint.f k bt284.1 bt284.2.1).bind fun t295 => (if t295 = true then ((tithebarnlaw13_VersionSort.f k (([(⟨#[51]⟩ : ByteArray), rdOf ByteArray.empty x1 x3, (⟨#[49]⟩ : ByteArray)] : List ByteArray))).bind fun t300 => (tithebarnlaw13_VersionKnown.j1 k x1 x2 x3 bt284.2.2 (!t300) bt284.1 bt284.2.1)) else (tithebarnlaw13_VersionKnown.j1 k x1 x2 x3 bt284.2.2 true bt284.1 bt284.2.1))) else (tithebarnlaw13_VersionKnown.j1 k x1 x2 x3 bt284.2.2 true bt284.1 bt284.2.1))) else (tithebarnlaw13_VersionKnown.j1 k x1 x2 x3 bt284.2.2 true bt284.1 bt284.2.1)))) else (none)) else (if 9 ≤ 35184372088832 then ((some (List.replicate 9 0 : List Int)).bind fun y320 => ((tithebarnlaw13_VersionSort.f k x2).bind fun t324 => (if t324 = true then ((tithebarnlaw13_VersionSort.f k (([(⟨#[50]⟩ : ByteArray), (⟨#[49, 46, 49, 48]⟩ : ByteArray), (⟨#[49, 46, 50]⟩ : ByteArray), (⟨#[49, 46, 50, 45, 97]⟩ : ByteArray), (⟨#[49, 46, 50]⟩ : ByteArray)] : List ByteArray))).bind fun t328 => (if t328 = true then ((tithebarnlaw13_VersionPrint.f k y320 (⟨#[]⟩ : ByteArray)).bind fun t329 => (if t329 = true then ((tithebarnlaw13_VersionPrint.f k (([(-1)] : List Int)) (⟨#[]⟩ : ByteArray)).bind fun t333 => (if t333 = true then ((tithebarnlaw13_VersionPrint.f k (([1000000000] : List Int)) (⟨#[]⟩ : ByteArray)).bind fun t337 => (if t337 = true then ((tithebarnlaw13_VersionPrint.f k (([1] : List Int)) (⟨#[65]⟩ : ByteArray)).bind fun t341 => (if t341 = true then ((tithebarnlaw13_VersionOrder.f k y320 (⟨#[]⟩ : ByteArray) ([] : List Int) (⟨#[]⟩ : ByteArray) ([] : List Int) (⟨#[97]⟩ : ByteArray)).bind fun t342 => (if t342 = true then ((tithebarnlaw13_works.f).bind fun t343 => (some t343)) else (some false))) else (some false))) else (some false))) else (some false))) else (some false))) else (some false))) else (some false)))) else (none))
def tithebarnlaw13_VersionKnown.j1 : Nat → List ByteArray → List ByteArray → Int → Int → Bool → List Int → ByteArray → Option (Bool)
  | 0, _, _, _, _, _, _, _ => none
  | k + 1, x1, x2, x3, x5, x60, x291000, x291001 => if x60 = true then (some false) else (if x5 = 0 then (if 0 ≤ x3 then (if x3 < (x1.length : Int) then (if x2.length < 8796093022208 then (tithebarnlaw13_VersionKnown.j2 k x1 (x2 ++ [rdOf ByteArray.empty x1 x3]) x3 x291000 x291001) else (none)) else (none)) else (none)) else (tithebarnlaw13_VersionKnown.j2 k x1 x2 x3 x291000 x291001))
def tithebarnlaw13_VersionKnown.j2 : Nat → List ByteArray → List ByteArray → Int → List Int → ByteArray → Option (Bool)
  | 0, _, _, _, _, _ => none
  | k + 1, x1, x2, x3, x291000, x291001 => tithebarnlaw13_VersionKnown.l1 k x1 x2 x3 0 x291000 x291001
def tithebarnlaw13_VersionKnown.l1 : Nat → List ByteArray → List ByteArray → Int → Int → List Int → ByteArray → Option (Bool)
  | 0, _, _, _, _, _, _ => none
  | k + 1, x1, x2, x3, x7, x291000, x291001 => if x7 < (x1.length : Int) then (if 0 ≤ x7 then ((tithebarnref13_Parse.f k (rdOf ByteArray.empty x1 x7)).bind fun bt306 => (if 0 ≤ x3 then (if x3 < (x1.length : Int) then ((tithebarnlaw13_VersionCompare.f k x291000 x291001 bt306.1 bt306.2.1 (rdOf ByteArray.empty x1 x3) (rdOf ByteArray.empty x1 x7)).bind fun t315 => (if t315 = true then ((tithebarnlaw13_VersionOrder.f k x291000 x291001 bt306.1 bt306.2.1 (([1, 2] : List Int)) (⟨#[]⟩ : ByteArray)).bind fun t319 => (if t319 = true then (tithebarnlaw13_VersionKnown.l1 k x1 x2 x3 (wrap64 (x7 + 1)) x291000 x291001) else (some false))) else (some false))) else (none)) else (none))) else (none)) else (tithebarnlaw13_VersionKnown.l0 k x1 x2 (wrap64 (x3 + 1)))
end
def tithebarnlaw13_VersionKnown.f (k : Nat)  : Option (Bool) := tithebarnlaw13_VersionKnown.l0 k (([(⟨#[]⟩ : ByteArray), (⟨#[48]⟩ : ByteArray), (⟨#[49]⟩ : ByteArray), (⟨#[48, 49]⟩ : ByteArray), (⟨#[48, 48]⟩ : ByteArray), (⟨#[49, 46]⟩ : ByteArray), (⟨#[46, 49]⟩ : ByteArray), (⟨#[49, 46, 46, 50]⟩ : ByteArray), (⟨#[49, 46, 50]⟩ : ByteArray), (⟨#[49, 46, 50, 46, 48]⟩ : ByteArray), (⟨#[49, 46, 49, 48]⟩ : ByteArray), (⟨#[49, 46, 50, 45, 114, 99, 49]⟩ : ByteArray), (⟨#[49, 46, 50, 45, 114, 99, 49, 48]⟩ : ByteArray), (⟨#[49, 46, 50, 45, 114, 99]⟩ : ByteArray), (⟨#[49, 46, 50, 45]⟩ : ByteArray), (⟨#[49, 46, 50, 45, 65]⟩ : ByteArray), (⟨#[49, 46, 50, 45, 97, 45, 98]⟩ : ByteArray), (⟨#[45, 97]⟩ : ByteArray), (⟨#[49, 46, 50, 46, 51, 46, 52, 46, 53, 46, 54, 46, 55, 46, 56]⟩ : ByteArray), (⟨#[49, 46, 50, 46, 51, 46, 52, 46, 53, 46, 54, 46, 55, 46, 56, 46, 57]⟩ : ByteArray), (⟨#[57, 57, 57, 57, 57, 57, 57, 57, 57]⟩ : ByteArray), (⟨#[49, 48, 48, 48, 48, 48, 48, 48, 48, 48]⟩ : ByteArray), (⟨#[57, 57, 57, 57, 57, 57, 57, 57, 57, 57, 57, 57, 57, 57, 57, 57, 57, 57, 57, 57, 57, 57]⟩ : ByteArray), (⟨#[43, 49]⟩ : ByteArray), (⟨#[49, 101, 51]⟩ : ByteArray), (⟨#[32, 49]⟩ : ByteArray), (⟨#[49, 45, 97, 98, 99, 100, 101, 102, 103, 104, 105, 106, 107, 108, 109, 110, 111, 112]⟩ : ByteArray), (⟨#[49, 45, 97, 98, 99, 100, 101, 102, 103, 104, 105, 106, 107, 108, 109, 110, 111, 112, 113]⟩ : ByteArray), (⟨#[49, 45, 48]⟩ : ByteArray), (⟨#[49, 45, 57, 122]⟩ : ByteArray), (⟨#[49, 46, 217, 161]⟩ : ByteArray), (⟨#[49, 45, 195, 169]⟩ : ByteArray), (⟨#[50]⟩ : ByteArray), (⟨#[49, 48]⟩ : ByteArray)] : List ByteArray)) ([] : List ByteArray) 0
theorem tithebarnlaw13_VersionKnown.mono_l : ∀ k, (∀ y0 y1 y2, LeO (tithebarnlaw13_VersionKnown.l0 k y0 y1 y2) (tithebarnlaw13_VersionKnown.l0 (k + 1) y0 y1 y2)) ∧ (∀ y0 y1 y2 y3 y4 y5 y6, LeO (tithebarnlaw13_VersionKnown.j1 k y0 y1 y2 y3 y4 y5 y6) (tithebarnlaw13_VersionKnown.j1 (k + 1) y0 y1 y2 y3 y4 y5 y6)) ∧ (∀ y0 y1 y2 y3 y4, LeO (tithebarnlaw13_VersionKnown.j2 k y0 y1 y2 y3 y4) (tithebarnlaw13_VersionKnown.j2 (k + 1) y0 y1 y2 y3 y4)) ∧ (∀ y0 y1 y2 y3 y4 y5, LeO (tithebarnlaw13_VersionKnown.l1 k y0 y1 y2 y3 y4 y5) (tithebarnlaw13_VersionKnown.l1 (k + 1) y0 y1 y2 y3 y4 y5))
  | 0 => ⟨fun _ _ _ r h => by simp [tithebarnlaw13_VersionKnown.l0] at h, fun _ _ _ _ _ _ _ r h => by simp [tithebarnlaw13_VersionKnown.j1] at h, fun _ _ _ _ _ r h => by simp [tithebarnlaw13_VersionKnown.j2] at h, fun _ _ _ _ _ _ r h => by simp [tithebarnlaw13_VersionKnown.l1] at h⟩
  | k + 1 => by
    obtain ⟨ih0, ih1, ih2, ih3⟩ := tithebarnlaw13_VersionKnown.mono_l k
    refine ⟨?_, ?_, ?_, ?_⟩
    · intro y0 y1 y2
      unfold tithebarnlaw13_VersionKnown.l0
      repeat' first
      | (with_reducible exact ih0 _ _ _)
      | (with_reducible exact ih1 _ _ _ _ _ _ _)
      | (with_reducible exact ih2 _ _ _ _ _)
      | (with_reducible exact ih3 _ _ _ _ _ _)
      | (with_reducible exact tithebarnlaw13_VersionBack.mono _ _ _ _)
      | (with_reducible exact tithebarnlaw13_VersionCompare.mono _ _ _ _ _ _ _)
      | (with_reducible exact tithebarnlaw13_VersionOrder.mono _ _ _ _ _ _ _)
      | (with_reducible exact tithebarnlaw13_VersionParse.mono _ _)
      | (with_reducible exact tithebarnlaw13_VersionPrint.mono _ _ _)
      | (with_reducible exact tithebarnlaw13_VersionSort.mono _ _)
      | (with_reducible exact tithebarnref13_Parse.mono _ _)
      | (with_reducible exact LeO.refl _)
      | (with_reducible exact LeO.none _)
      | (with_reducible refine LeO.ite ?_ ?_)
      | (with_reducible refine LeO.bind ?_ (fun _ => ?_))
      | exact ih0 _ _ _
      | exact ih1 _ _ _ _ _ _ _
      | exact ih2 _ _ _ _ _
      | exact ih3 _ _ _ _ _ _
      | exact tithebarnlaw13_VersionBack.mono _ _ _ _
      | exact tithebarnlaw13_VersionCompare.mono _ _ _ _ _ _ _
      | exact tithebarnlaw13_VersionOrder.mono _ _ _ _ _ _ _
      | exact tithebarnlaw13_VersionParse.mono _ _
      | exact tithebarnlaw13_VersionPrint.mono _ _ _
      | exact tithebarnlaw13_VersionSort.mono _ _
      | exact tithebarnref13_Parse.mono _ _
      | exact LeO.none _
      | refine LeO.ite ?_ ?_
      | refine LeO.bind ?_ (fun _ => ?_)
    · intro y0 y1 y2 y3 y4 y5 y6
      unfold tithebarnlaw13_VersionKnown.j1
      repeat' first
      | (with_reducible exact ih0 _ _ _)
      | (with_reducible exact ih1 _ _ _ _ _ _ _)
      | (with_reducible exact ih2 _ _ _ _ _)
      | (with_reducible exact ih3 _ _ _ _ _ _)
      | (with_reducible exact tithebarnlaw13_VersionBack.mono _ _ _ _)
      | (with_reducible exact tithebarnlaw13_VersionCompare.mono _ _ _ _ _ _ _)
      | (with_reducible exact tithebarnlaw13_VersionOrder.mono _ _ _ _ _ _ _)
      | (with_reducible exact tithebarnlaw13_VersionParse.mono _ _)
      | (with_reducible exact tithebarnlaw13_VersionPrint.mono _ _ _)
      | (with_reducible exact tithebarnlaw13_VersionSort.mono _ _)
      | (with_reducible exact tithebarnref13_Parse.mono _ _)
      | (with_reducible exact LeO.refl _)
      | (with_reducible exact LeO.none _)
      | (with_reducible refine LeO.ite ?_ ?_)
      | (with_reducible refine LeO.bind ?_ (fun _ => ?_))
      | exact ih0 _ _ _
      | exact ih1 _ _ _ _ _ _ _
      | exact ih2 _ _ _ _ _
      | exact ih3 _ _ _ _ _ _
      | exact tithebarnlaw13_VersionBack.mono _ _ _ _
      | exact tithebarnlaw13_VersionCompare.mono _ _ _ _ _ _ _
      | exact tithebarnlaw13_VersionOrder.mono _ _ _ _ _ _ _
      | exact tithebarnlaw13_VersionParse.mono _ _
      | exact tithebarnlaw13_VersionPrint.mono _ _ _
      | exact tithebarnlaw13_VersionSort.mono _ _
      | exact tithebarnref13_Parse.mono _ _
      | exact LeO.none _
      | refine LeO.ite ?_ ?_
      | refine LeO.bind ?_ (fun _ => ?_)
    · intro y0 y1 y2 y3 y4
      unfold tithebarnlaw13_VersionKnown.j2
      repeat' first
      | (with_reducible exact ih0 _ _ _)
      | (with_reducible exact ih1 _ _ _ _ _ _ _)
      | (with_reducible exact ih2 _ _ _ _ _)
      | (with_reducible exact ih3 _ _ _ _ _ _)
      | (with_reducible exact tithebarnlaw13_VersionBack.mono _ _ _ _)
      | (with_reducible exact tithebarnlaw13_VersionCompare.mono _ _ _ _ _ _ _)
      | (with_reducible exact tithebarnlaw13_VersionOrder.mono _ _ _ _ _ _ _)
      | (with_reducible exact tithebarnlaw13_VersionParse.mono _ _)
      | (with_reducible exact tithebarnlaw13_VersionPrint.mono _ _ _)
      | (with_reducible exact tithebarnlaw13_VersionSort.mono _ _)
      | (with_reducible exact tithebarnref13_Parse.mono _ _)
      | (with_reducible exact LeO.refl _)
      | (with_reducible exact LeO.none _)
      | (with_reducible refine LeO.ite ?_ ?_)
      | (with_reducible refine LeO.bind ?_ (fun _ => ?_))
      | exact ih0 _ _ _
      | exact ih1 _ _ _ _ _ _ _
      | exact ih2 _ _ _ _ _
      | exact ih3 _ _ _ _ _ _
      | exact tithebarnlaw13_VersionBack.mono _ _ _ _
      | exact tithebarnlaw13_VersionCompare.mono _ _ _ _ _ _ _
      | exact tithebarnlaw13_VersionOrder.mono _ _ _ _ _ _ _
      | exact tithebarnlaw13_VersionParse.mono _ _
      | exact tithebarnlaw13_VersionPrint.mono _ _ _
      | exact tithebarnlaw13_VersionSort.mono _ _
      | exact tithebarnref13_Parse.mono _ _
      | exact LeO.none _
      | refine LeO.ite ?_ ?_
      | refine LeO.bind ?_ (fun _ => ?_)
    · intro y0 y1 y2 y3 y4 y5
      unfold tithebarnlaw13_VersionKnown.l1
      repeat' first
      | (with_reducible exact ih0 _ _ _)
      | (with_reducible exact ih1 _ _ _ _ _ _ _)
      | (with_reducible exact ih2 _ _ _ _ _)
      | (with_reducible exact ih3 _ _ _ _ _ _)
      | (with_reducible exact tithebarnlaw13_VersionBack.mono _ _ _ _)
      | (with_reducible exact tithebarnlaw13_VersionCompare.mono _ _ _ _ _ _ _)
      | (with_reducible exact tithebarnlaw13_VersionOrder.mono _ _ _ _ _ _ _)
      | (with_reducible exact tithebarnlaw13_VersionParse.mono _ _)
      | (with_reducible exact tithebarnlaw13_VersionPrint.mono _ _ _)
      | (with_reducible exact tithebarnlaw13_VersionSort.mono _ _)
      | (with_reducible exact tithebarnref13_Parse.mono _ _)
      | (with_reducible exact LeO.refl _)
      | (with_reducible exact LeO.none _)
      | (with_reducible refine LeO.ite ?_ ?_)
      | (with_reducible refine LeO.bind ?_ (fun _ => ?_))
      | exact ih0 _ _ _
      | exact ih1 _ _ _ _ _ _ _
      | exact ih2 _ _ _ _ _
      | exact ih3 _ _ _ _ _ _
      | exact tithebarnlaw13_VersionBack.mono _ _ _ _
      | exact tithebarnlaw13_VersionCompare.mono _ _ _ _ _ _ _
      | exact tithebarnlaw13_VersionOrder.mono _ _ _ _ _ _ _
      | exact tithebarnlaw13_VersionParse.mono _ _
      | exact tithebarnlaw13_VersionPrint.mono _ _ _
      | exact tithebarnlaw13_VersionSort.mono _ _
      | exact tithebarnref13_Parse.mono _ _
      | exact LeO.none _
      | refine LeO.ite ?_ ?_
      | refine LeO.bind ?_ (fun _ => ?_)
theorem tithebarnlaw13_VersionKnown.mono : ∀ k, LeO (tithebarnlaw13_VersionKnown.f k ) (tithebarnlaw13_VersionKnown.f (k + 1) ) := by
  intro  k
  obtain ⟨ih0, ih1, ih2, ih3⟩ := tithebarnlaw13_VersionKnown.mono_l k
  unfold tithebarnlaw13_VersionKnown.f
  repeat' first
      | (with_reducible exact ih0 _ _ _)
      | (with_reducible exact ih1 _ _ _ _ _ _ _)
      | (with_reducible exact ih2 _ _ _ _ _)
      | (with_reducible exact ih3 _ _ _ _ _ _)
      | (with_reducible exact tithebarnlaw13_VersionBack.mono _ _ _ _)
      | (with_reducible exact tithebarnlaw13_VersionCompare.mono _ _ _ _ _ _ _)
      | (with_reducible exact tithebarnlaw13_VersionOrder.mono _ _ _ _ _ _ _)
      | (with_reducible exact tithebarnlaw13_VersionParse.mono _ _)
      | (with_reducible exact tithebarnlaw13_VersionPrint.mono _ _ _)
      | (with_reducible exact tithebarnlaw13_VersionSort.mono _ _)
      | (with_reducible exact tithebarnref13_Parse.mono _ _)
      | (with_reducible exact LeO.refl _)
      | (with_reducible exact LeO.none _)
      | (with_reducible refine LeO.ite ?_ ?_)
      | (with_reducible refine LeO.bind ?_ (fun _ => ?_))
      | exact ih0 _ _ _
      | exact ih1 _ _ _ _ _ _ _
      | exact ih2 _ _ _ _ _
      | exact ih3 _ _ _ _ _ _
      | exact tithebarnlaw13_VersionBack.mono _ _ _ _
      | exact tithebarnlaw13_VersionCompare.mono _ _ _ _ _ _ _
      | exact tithebarnlaw13_VersionOrder.mono _ _ _ _ _ _ _
      | exact tithebarnlaw13_VersionParse.mono _ _
      | exact tithebarnlaw13_VersionPrint.mono _ _ _
      | exact tithebarnlaw13_VersionSort.mono _ _
      | exact tithebarnref13_Parse.mono _ _
      | exact LeO.none _
      | refine LeO.ite ?_ ?_
      | refine LeO.bind ?_ (fun _ => ?_)
def tithebarnlaw13_VersionKnown.T8 : Bool × List (List Nat × List Nat) := (true, [([], []), ([], []), ([0, 1], [0, 1]), ([2], [2]), ([3], [3]), ([4], [4]), ([5, 4], [5]), ([6], [6]), ([6], [6]), ([7, 8, 6], [6, 7, 8]), ([9, 6], [6, 9]), ([6], [6]), ([10, 11, 6, 6], [6, 10, 11]), ([12, 6], [6, 12]), ([6, 13], [6, 13]), ([14, 12], [14]), ([15], [15]), ([16, 15, 15], [15, 16]), ([17, 15], [15, 17]), ([15, 18], [15, 18]), ([19, 17], [19]), ([20], [20]), ([20], [20]), ([21, 22, 20], [20, 21, 22]), ([23, 20], [20, 23]), ([24, 20], [20, 24]), ([25, 20, 20], [20, 25]), ([26, 20], [20, 26]), ([20, 27], [20, 27])])
def tithebarnlaw13_VersionKnown.B8 : List Nat := [0, 0, 3, 7, 15, 31, 63, 127, 127, 511, 1023, 127, 4095, 8191, 16383, 32767, 65535, 131071, 262143, 524287, 1048575, 2097151, 2097151, 8388607, 16777215, 33554431, 67108863, 134217727, 268435455]
theorem tithebarnlaw13_VersionKnown.tab8 : rtab .any (opsOf Tryz.f4 8) = tithebarnlaw13_VersionKnown.T8 := by kernel_rfl
theorem tithebarnlaw13_VersionKnown.bits8 : waitsOk tithebarnlaw13_VersionKnown.T8.2 tithebarnlaw13_VersionKnown.B8 = true := by kernel_rfl
def tithebarnlaw13_VersionKnown.T17 : Bool × List (List Nat × List Nat) := (true, [([], []), ([], []), ([], []), ([], []), ([2, 3], [2, 3]), ([4], [4]), ([], []), ([], []), ([6, 7], [6, 7]), ([8], [8]), ([0, 1, 5, 9], [0, 1, 5, 9]), ([10], [10]), ([11, 10], [11]), ([12], [12]), ([12], [12]), ([12], [12]), ([15, 12], [12, 15]), ([13, 14, 16, 12, 12], [12, 13, 14, 16]), ([17, 12], [12, 17]), ([12, 18], [12, 18])])
def tithebarnlaw13_VersionKnown.B17 : List Nat := [0, 0, 0, 0, 12, 28, 0, 0, 192, 448, 1023, 2047, 4095, 8191, 8191, 8191, 40959, 131071, 262143, 524287]
theorem tithebarnlaw13_VersionKnown.tab17 : rtab .any (opsOf Tryz.f4 17) = tithebarnlaw13_VersionKnown.T17 := by kernel_rfl
theorem tithebarnlaw13_VersionKnown.bits17 : waitsOk tithebarnlaw13_VersionKnown.T17.2 tithebarnlaw13_VersionKnown.B17 = true := by kernel_rfl
set_option maxHeartbeats 8000000 in
set_option maxRecDepth 100000 in
theorem tithebarnlaw13_VersionKnown.calls (k : Nat)  (r : Bool) (w : World) (hT : VTabs w) (h : tithebarnlaw13_VersionKnown.f k  = some r) :
    Calls Tryz.prog 4 #[] w fun e w' => e = .returned (.bool r) ∧ Below w.heap.size w w' := by
  have hu30 := Tryz.underlying30
  have hu24 := Tryz.underlying24
  have HB := Aside0.mk (Below.refl w.heap.size w)
  have HTabs := Aside0.mk hT
  clear hT
  have H : (tithebarnlaw13_VersionKnown.l0 k (([(⟨#[]⟩ : ByteArray), (⟨#[48]⟩ : ByteArray), (⟨#[49]⟩ : ByteArray), (⟨#[48, 49]⟩ : ByteArray), (⟨#[48, 48]⟩ : ByteArray), (⟨#[49, 46]⟩ : ByteArray), (⟨#[46, 49]⟩ : ByteArray), (⟨#[49, 46, 46, 50]⟩ : ByteArray), (⟨#[49, 46, 50]⟩ : ByteArray), (⟨#[49, 46, 50, 46, 48]⟩ : ByteArray), (⟨#[49, 46, 49, 48]⟩ : ByteArray), (⟨#[49, 46, 50, 45, 114, 99, 49]⟩ : ByteArray), (⟨#[49, 46, 50, 45, 114, 99, 49, 48]⟩ : ByteArray), (⟨#[49, 46, 50, 45, 114, 99]⟩ : ByteArray), (⟨#[49, 46, 50, 45]⟩ : ByteArray), (⟨#[49, 46, 50, 45, 65]⟩ : ByteArray), (⟨#[49, 46, 50, 45, 97, 45, 98]⟩ : ByteArray), (⟨#[45, 97]⟩ : ByteArray), (⟨#[49, 46, 50, 46, 51, 46, 52, 46, 53, 46, 54, 46, 55, 46, 56]⟩ : ByteArray), (⟨#[49, 46, 50, 46, 51, 46, 52, 46, 53, 46, 54, 46, 55, 46, 56, 46, 57]⟩ : ByteArray), (⟨#[57, 57, 57, 57, 57, 57, 57, 57, 57]⟩ : ByteArray), (⟨#[49, 48, 48, 48, 48, 48, 48, 48, 48, 48]⟩ : ByteArray), (⟨#[57, 57, 57, 57, 57, 57, 57, 57, 57, 57, 57, 57, 57, 57, 57, 57, 57, 57, 57, 57, 57, 57]⟩ : ByteArray), (⟨#[43, 49]⟩ : ByteArray), (⟨#[49, 101, 51]⟩ : ByteArray), (⟨#[32, 49]⟩ : ByteArray), (⟨#[49, 45, 97, 98, 99, 100, 101, 102, 103, 104, 105, 106, 107, 108, 109, 110, 111, 112]⟩ : ByteArray), (⟨#[49, 45, 97, 98, 99, 100, 101, 102, 103, 104, 105, 106, 107, 108, 109, 110, 111, 112, 113]⟩ : ByteArray), (⟨#[49, 45, 48]⟩ : ByteArray), (⟨#[49, 45, 57, 122]⟩ : ByteArray), (⟨#[49, 46, 217, 161]⟩ : ByteArray), (⟨#[49, 45, 195, 169]⟩ : ByteArray), (⟨#[50]⟩ : ByteArray), (⟨#[49, 48]⟩ : ByteArray)] : List ByteArray)) ([] : List ByteArray) 0) = some r := h
  clear h
  obtain ⟨y280, hy280⟩ : ∃ y_ : List ByteArray, y_ = (([(⟨#[]⟩ : ByteArray), (⟨#[48]⟩ : ByteArray), (⟨#[49]⟩ : ByteArray), (⟨#[48, 49]⟩ : ByteArray), (⟨#[48, 48]⟩ : ByteArray), (⟨#[49, 46]⟩ : ByteArray), (⟨#[46, 49]⟩ : ByteArray), (⟨#[49, 46, 46, 50]⟩ : ByteArray), (⟨#[49, 46, 50]⟩ : ByteArray), (⟨#[49, 46, 50, 46, 48]⟩ : ByteArray), (⟨#[49, 46, 49, 48]⟩ : ByteArray), (⟨#[49, 46, 50, 45, 114, 99, 49]⟩ : ByteArray), (⟨#[49, 46, 50, 45, 114, 99, 49, 48]⟩ : ByteArray), (⟨#[49, 46, 50, 45, 114, 99]⟩ : ByteArray), (⟨#[49, 46, 50, 45]⟩ : ByteArray), (⟨#[49, 46, 50, 45, 65]⟩ : ByteArray), (⟨#[49, 46, 50, 45, 97, 45, 98]⟩ : ByteArray), (⟨#[45, 97]⟩ : ByteArray), (⟨#[49, 46, 50, 46, 51, 46, 52, 46, 53, 46, 54, 46, 55, 46, 56]⟩ : ByteArray), (⟨#[49, 46, 50, 46, 51, 46, 52, 46, 53, 46, 54, 46, 55, 46, 56, 46, 57]⟩ : ByteArray), (⟨#[57, 57, 57, 57, 57, 57, 57, 57, 57]⟩ : ByteArray), (⟨#[49, 48, 48, 48, 48, 48, 48, 48, 48, 48]⟩ : ByteArray), (⟨#[57, 57, 57, 57, 57, 57, 57, 57, 57, 57, 57, 57, 57, 57, 57, 57, 57, 57, 57, 57, 57, 57]⟩ : ByteArray), (⟨#[43, 49]⟩ : ByteArray), (⟨#[49, 101, 51]⟩ : ByteArray), (⟨#[32, 49]⟩ : ByteArray), (⟨#[49, 45, 97, 98, 99, 100, 101, 102, 103, 104, 105, 106, 107, 108, 109, 110, 111, 112]⟩ : ByteArray), (⟨#[49, 45, 97, 98, 99, 100, 101, 102, 103, 104, 105, 106, 107, 108, 109, 110, 111, 112, 113]⟩ : ByteArray), (⟨#[49, 45, 48]⟩ : ByteArray), (⟨#[49, 45, 57, 122]⟩ : ByteArray), (⟨#[49, 46, 217, 161]⟩ : ByteArray), (⟨#[49, 45, 195, 169]⟩ : ByteArray), (⟨#[50]⟩ : ByteArray), (⟨#[49, 48]⟩ : ByteArray)] : List ByteArray)) := ⟨_, rfl⟩
  replace H : (tithebarnlaw13_VersionKnown.l0 k y280 ([] : List ByteArray) 0) = some r := by first | (rw [hy280]; with_reducible exact H) | (have H2_ := (Option.bind_some _ _).symm.trans H; rw [hy280]; with_reducible exact H2_) | (have H2_ := (Option.bind_some _ _).symm.trans H; with_reducible exact H2_) | with_reducible exact H | (rw [hy280]; exact H) | exact H
  have Ny280 := Aside0.mk hy280
  clear hy280
  have H' := Aside0.mk H
  clear H
  go_enter Tryz.func4, Tryz.ntmps4
  go_wp2_with (first | ((with_reducible refine gate_dst (N := 12) rfl ?_); (try (refine gate_guard (by rfl) ?_; dsimp only)); refine Kd.R_lit Kd.string _ 9 ?hg (N := 12) ?hd (xs := ([(⟨#[]⟩ : ByteArray), (⟨#[48]⟩ : ByteArray), (⟨#[49]⟩ : ByteArray), (⟨#[48, 49]⟩ : ByteArray), (⟨#[48, 48]⟩ : ByteArray), (⟨#[49, 46]⟩ : ByteArray), (⟨#[46, 49]⟩ : ByteArray), (⟨#[49, 46, 46, 50]⟩ : ByteArray), (⟨#[49, 46, 50]⟩ : ByteArray), (⟨#[49, 46, 50, 46, 48]⟩ : ByteArray), (⟨#[49, 46, 49, 48]⟩ : ByteArray), (⟨#[49, 46, 50, 45, 114, 99, 49]⟩ : ByteArray), (⟨#[49, 46, 50, 45, 114, 99, 49, 48]⟩ : ByteArray), (⟨#[49, 46, 50, 45, 114, 99]⟩ : ByteArray), (⟨#[49, 46, 50, 45]⟩ : ByteArray), (⟨#[49, 46, 50, 45, 65]⟩ : ByteArray), (⟨#[49, 46, 50, 45, 97, 45, 98]⟩ : ByteArray), (⟨#[45, 97]⟩ : ByteArray), (⟨#[49, 46, 50, 46, 51, 46, 52, 46, 53, 46, 54, 46, 55, 46, 56]⟩ : ByteArray), (⟨#[49, 46, 50, 46, 51, 46, 52, 46, 53, 46, 54, 46, 55, 46, 56, 46, 57]⟩ : ByteArray), (⟨#[57, 57, 57, 57, 57, 57, 57, 57, 57]⟩ : ByteArray), (⟨#[49, 48, 48, 48, 48, 48, 48, 48, 48, 48]⟩ : ByteArray), (⟨#[57, 57, 57, 57, 57, 57, 57, 57, 57, 57, 57, 57, 57, 57, 57, 57, 57, 57, 57, 57, 57, 57]⟩ : ByteArray), (⟨#[43, 49]⟩ : ByteArray), (⟨#[49, 101, 51]⟩ : ByteArray), (⟨#[32, 49]⟩ : ByteArray), (⟨#[49, 45, 97, 98, 99, 100, 101, 102, 103, 104, 105, 106, 107, 108, 109, 110, 111, 112]⟩ : ByteArray), (⟨#[49, 45, 97, 98, 99, 100, 101, 102, 103, 104, 105, 106, 107, 108, 109, 110, 111, 112, 113]⟩ : ByteArray), (⟨#[49, 45, 48]⟩ : ByteArray), (⟨#[49, 45, 57, 122]⟩ : ByteArray), (⟨#[49, 46, 217, 161]⟩ : ByteArray), (⟨#[49, 45, 195, 169]⟩ : ByteArray), (⟨#[50]⟩ : ByteArray), (⟨#[49, 48]⟩ : ByteArray)] : List ByteArray)) (inner := [.string (⟨#[]⟩ : ByteArray), .string (⟨#[48]⟩ : ByteArray), .string (⟨#[49]⟩ : ByteArray), .string (⟨#[48, 49]⟩ : ByteArray), .string (⟨#[48, 48]⟩ : ByteArray), .string (⟨#[49, 46]⟩ : ByteArray), .string (⟨#[46, 49]⟩ : ByteArray), .string (⟨#[49, 46, 46, 50]⟩ : ByteArray), .string (⟨#[49, 46, 50]⟩ : ByteArray), .string (⟨#[49, 46, 50, 46, 48]⟩ : ByteArray), .string (⟨#[49, 46, 49, 48]⟩ : ByteArray), .string (⟨#[49, 46, 50, 45, 114, 99, 49]⟩ : ByteArray), .string (⟨#[49, 46, 50, 45, 114, 99, 49, 48]⟩ : ByteArray), .string (⟨#[49, 46, 50, 45, 114, 99]⟩ : ByteArray), .string (⟨#[49, 46, 50, 45]⟩ : ByteArray), .string (⟨#[49, 46, 50, 45, 65]⟩ : ByteArray), .string (⟨#[49, 46, 50, 45, 97, 45, 98]⟩ : ByteArray), .string (⟨#[45, 97]⟩ : ByteArray), .string (⟨#[49, 46, 50, 46, 51, 46, 52, 46, 53, 46, 54, 46, 55, 46, 56]⟩ : ByteArray), .string (⟨#[49, 46, 50, 46, 51, 46, 52, 46, 53, 46, 54, 46, 55, 46, 56, 46, 57]⟩ : ByteArray), .string (⟨#[57, 57, 57, 57, 57, 57, 57, 57, 57]⟩ : ByteArray), .string (⟨#[49, 48, 48, 48, 48, 48, 48, 48, 48, 48]⟩ : ByteArray), .string (⟨#[57, 57, 57, 57, 57, 57, 57, 57, 57, 57, 57, 57, 57, 57, 57, 57, 57, 57, 57, 57, 57, 57]⟩ : ByteArray), .string (⟨#[43, 49]⟩ : ByteArray), .string (⟨#[49, 101, 51]⟩ : ByteArray), .string (⟨#[32, 49]⟩ : ByteArray), .string (⟨#[49, 45, 97, 98, 99, 100, 101, 102, 103, 104, 105, 106, 107, 108, 109, 110, 111, 112]⟩ : ByteArray), .string (⟨#[49, 45, 97, 98, 99, 100, 101, 102, 103, 104, 105, 106, 107, 108, 109, 110, 111, 112, 113]⟩ : ByteArray), .string (⟨#[49, 45, 48]⟩ : ByteArray), .string (⟨#[49, 45, 57, 122]⟩ : ByteArray), .string (⟨#[49, 46, 217, 161]⟩ : ByteArray), .string (⟨#[49, 45, 195, 169]⟩ : ByteArray), .string (⟨#[50]⟩ : ByteArray), .string (⟨#[49, 48]⟩ : ByteArray)]) (ok := fun _ => True) (okp := fun _ => True) ?hr ?hp (fun _ hk => hk) trivial (Below.refl _ _) (Nat.le_refl _) (by simp) ?_; (case hd => rfl); (case hg => rfl); (case hr => first | (go_simp; done) | (go_simp; rfl)); (case hp => exact (Reps.one (show Kd.M Kd.string _ _ _ (⟨#[]⟩ : ByteArray) [.string (⟨#[]⟩ : ByteArray)] from rfl) (Reps.one (show Kd.M Kd.string _ _ _ (⟨#[48]⟩ : ByteArray) [.string (⟨#[48]⟩ : ByteArray)] from rfl) (Reps.one (show Kd.M Kd.string _ _ _ (⟨#[49]⟩ : ByteArray) [.string (⟨#[49]⟩ : ByteArray)] from rfl) (Reps.one (show Kd.M Kd.string _ _ _ (⟨#[48, 49]⟩ : ByteArray) [.string (⟨#[48, 49]⟩ : ByteArray)] from rfl) (Reps.one (show Kd.M Kd.string _ _ _ (⟨#[48, 48]⟩ : ByteArray) [.string (⟨#[48, 48]⟩ : ByteArray)] from rfl) (Reps.one (show Kd.M Kd.string _ _ _ (⟨#[49, 46]⟩ : ByteArray) [.string (⟨#[49, 46]⟩ : ByteArray)] from rfl) (Reps.one (show Kd.M Kd.string _ _ _ (⟨#[46, 49]⟩ : ByteArray) [.string (⟨#[46, 49]⟩ : ByteArray)] from rfl) (Reps.one (show Kd.M Kd.string _ _ _ (⟨#[49, 46, 46, 50]⟩ : ByteArray) [.string (⟨#[49, 46, 46, 50]⟩ : ByteArray)] from rfl) (Reps.one (show Kd.M Kd.string _ _ _ (⟨#[49, 46, 50]⟩ : ByteArray) [.string (⟨#[49, 46, 50]⟩ : ByteArray)] from rfl) (Reps.one (show Kd.M Kd.string _ _ _ (⟨#[49, 46, 50, 46, 48]⟩ : ByteArray) [.string (⟨#[49, 46, 50, 46, 48]⟩ : ByteArray)] from rfl) (Reps.one (show Kd.M Kd.string _ _ _ (⟨#[49, 46, 49, 48]⟩ : ByteArray) [.string (⟨#[49, 46, 49, 48]⟩ : ByteArray)] from rfl) (Reps.one (show Kd.M Kd.string _ _ _ (⟨#[49, 46, 50, 45, 114, 99, 49]⟩ : ByteArray) [.string (⟨#[49, 46, 50, 45, 114, 99, 49]⟩ : ByteArray)] from rfl) (Reps.one (show Kd.M Kd.string _ _ _ (⟨#[49, 46, 50, 45, 114, 99, 49, 48]⟩ : ByteArray) [.string (⟨#[49, 46, 50, 45, 114, 99, 49, 48]⟩ : ByteArray)] from rfl) (Reps.one (show Kd.M Kd.string _ _ _ (⟨#[49, 46, 50, 45, 114, 99]⟩ : ByteArray) [.string (⟨#[49, 46, 50, 45, 114, 99]⟩ : ByteArray)] from rfl) (Reps.one (show Kd.M Kd.string _ _ _ (⟨#[49, 46, 50, 45]⟩ : ByteArray) [.string (⟨#[49, 46, 50, 45]⟩ : ByteArray)] from rfl) (Reps.one (show Kd.M Kd.string _ _ _ (⟨#[49, 46, 50, 45, 65]⟩ : ByteArray) [.string (⟨#[49, 46, 50, 45, 65]⟩ : ByteArray)] from rfl) (Reps.one (show Kd.M Kd.string _ _ _ (⟨#[49, 46, 50, 45, 97, 45, 98]⟩ : ByteArray) [.string (⟨#[49, 46, 50, 45, 97, 45, 98]⟩ : ByteArray)] from rfl) (Reps.one (show Kd.M Kd.string _ _ _ (⟨#[45, 97]⟩ : ByteArray) [.string (⟨#[45, 97]⟩ : ByteArray)] from rfl) (Reps.one (show Kd.M Kd.string _ _ _ (⟨#[49, 46, 50, 46, 51, 46, 52, 46, 53, 46, 54, 46, 55, 46, 56]⟩ : ByteArray) [.string (⟨#[49, 46, 50, 46, 51, 46, 52, 46, 53, 46, 54, 46, 55, 46, 56]⟩ : ByteArray)] from rfl) (Reps.one (show Kd.M Kd.string _ _ _ (⟨#[49, 46, 50, 46, 51, 46, 52, 46, 53, 46, 54, 46, 55, 46, 56, 46, 57]⟩ : ByteArray) [.string (⟨#[49, 46, 50, 46, 51, 46, 52, 46, 53, 46, 54, 46, 55, 46, 56, 46, 57]⟩ : ByteArray)] from rfl) (Reps.one (show Kd.M Kd.string _ _ _ (⟨#[57, 57, 57, 57, 57, 57, 57, 57, 57]⟩ : ByteArray) [.string (⟨#[57, 57, 57, 57, 57, 57, 57, 57, 57]⟩ : ByteArray)] from rfl) (Reps.one (show Kd.M Kd.string _ _ _ (⟨#[49, 48, 48, 48, 48, 48, 48, 48, 48, 48]⟩ : ByteArray) [.string (⟨#[49, 48, 48, 48, 48, 48, 48, 48, 48, 48]⟩ : ByteArray)] from rfl) (Reps.one (show Kd.M Kd.string _ _ _ (⟨#[57, 57, 57, 57, 57, 57, 57, 57, 57, 57, 57, 57, 57, 57, 57, 57, 57, 57, 57, 57, 57, 57]⟩ : ByteArray) [.string (⟨#[57, 57, 57, 57, 57, 57, 57, 57, 57, 57, 57, 57, 57, 57, 57, 57, 57, 57, 57, 57, 57, 57]⟩ : ByteArray)] from rfl) (Reps.one (show Kd.M Kd.string _ _ _ (⟨#[43, 49]⟩ : ByteArray) [.string (⟨#[43, 49]⟩ : ByteArray)] from rfl) (Reps.one (show Kd.M Kd.string _ _ _ (⟨#[49, 101, 51]⟩ : ByteArray) [.string (⟨#[49, 101, 51]⟩ : ByteArray)] from rfl) (Reps.one (show Kd.M Kd.string _ _ _ (⟨#[32, 49]⟩ : ByteArray) [.string (⟨#[32, 49]⟩ : ByteArray)] from rfl) (Reps.one (show Kd.M Kd.string _ _ _ (⟨#[49, 45, 97, 98, 99, 100, 101, 102, 103, 104, 105, 106, 107, 108, 109, 110, 111, 112]⟩ : ByteArray) [.string (⟨#[49, 45, 97, 98, 99, 100, 101, 102, 103, 104, 105, 106, 107, 108, 109, 110, 111, 112]⟩ : ByteArray)] from rfl) (Reps.one (show Kd.M Kd.string _ _ _ (⟨#[49, 45, 97, 98, 99, 100, 101, 102, 103, 104, 105, 106, 107, 108, 109, 110, 111, 112, 113]⟩ : ByteArray) [.string (⟨#[49, 45, 97, 98, 99, 100, 101, 102, 103, 104, 105, 106, 107, 108, 109, 110, 111, 112, 113]⟩ : ByteArray)] from rfl) (Reps.one (show Kd.M Kd.string _ _ _ (⟨#[49, 45, 48]⟩ : ByteArray) [.string (⟨#[49, 45, 48]⟩ : ByteArray)] from rfl) (Reps.one (show Kd.M Kd.string _ _ _ (⟨#[49, 45, 57, 122]⟩ : ByteArray) [.string (⟨#[49, 45, 57, 122]⟩ : ByteArray)] from rfl) (Reps.one (show Kd.M Kd.string _ _ _ (⟨#[49, 46, 217, 161]⟩ : ByteArray) [.string (⟨#[49, 46, 217, 161]⟩ : ByteArray)] from rfl) (Reps.one (show Kd.M Kd.string _ _ _ (⟨#[49, 45, 195, 169]⟩ : ByteArray) [.string (⟨#[49, 45, 195, 169]⟩ : ByteArray)] from rfl) (Reps.one (show Kd.M Kd.string _ _ _ (⟨#[50]⟩ : ByteArray) [.string (⟨#[50]⟩ : ByteArray)] from rfl) (Reps.one (show Kd.M Kd.string _ _ _ (⟨#[49, 48]⟩ : ByteArray) [.string (⟨#[49, 48]⟩ : ByteArray)] from rfl) (Reps.none _ _)))))))))))))))))))))))))))))))))))); intro v281 w1 ho2 hb hg_ hnew_; clear hg_ hnew_; (first | rw [← Ny280.out] at ho2 | (simp only [Int.reduceToNat] at ho2; rw [← Ny280.out] at ho2)); have n0_ := Aside0.mk (Kd.R_lower ho2 (below_size tb)); have n1_ := Aside0.mk (below_step tb hb); clear HB; have HO282 := n0_; have HB := n1_; clear n0_ n1_; clear hb ho2))
  go_loopg [2, 3] k (fun kq v2 v3 w' => ∃ (x2_1 : List ByteArray) (x3_1 : Int), v3 = .int .i64 x3_1 ∧ Aside0 (tithebarnlaw13_VersionKnown.l0 kq y280 x2_1 x3_1 = some r) ∧ Aside0 (kq ≤ k) ∧ Aside0 (Kd.R Kd.string 9 w' w.heap.size (fun k_ => some k_ ≠ (v2 : Value).ownBlock) v281 y280) ∧ Aside0 (Kd.R Kd.string 9 w' w.heap.size (fun k_ => some k_ ≠ (v281 : Value).ownBlock) v2 x2_1) ∧ Aside0 (Below w.heap.size w w'))
  case atStart => exact ⟨(([] : List ByteArray)), (0), (by first | rfl | (simp; done) | (simp [*]; done)), H', ⟨Nat.le_refl _⟩, ⟨by (with_reducible repeat (first | apply Kd.R_alloc | apply Kd.R_drewN | apply Kd.R_drew)); exact Kd.R_mono HO282.out (fun _ hk => (by simp [Value.ownBlock]))⟩, ⟨by first | exact Kd.R_nil _ _ _ _ _ | exact Kd.N_nil _ _ _ _ _ | exact Kd.V_nil _ _ _ _ _ | exact Kd.Q_nil _ _ _ _ _ | exact Kd.S_nil _ _ _ _ _⟩, ⟨tb⟩⟩
  case round =>
    clear H'
    try clear p2
    obtain ⟨x2_1, x3_1, rfl, HA, HK1, HO_1, HO_2, HB⟩ := hrel
    cases gk with
    | zero => exact absurd HA.out (by simp [tithebarnlaw13_VersionKnown.l0])
    | succ k1 =>
      have H := HA.out
      clear HA
      simp only [tithebarnlaw13_VersionKnown.l0] at H
      by_cases c3 : x3_1 < (y280.length : Int)
      rotate_left
      · rw [if_neg c3] at H
        have c3b0 : decide (x3_1 < (y280.length : Int)) = false := decide_eq_false c3
        clear c3
        by_cases c109 : 9 ≤ 35184372088832
        rotate_left
        · rw [if_neg c109] at H
          exact absurd H (by simp)

        rw [if_pos c109] at H
        have c109b0 := eq_true c109
        have c109b1 : decide (9 ≤ 35184372088832) = true := decide_eq_true c109
        clear c109
        obtain ⟨y320, hy320⟩ : ∃ y_ : List Int, y_ = (List.replicate 9 0) := ⟨_, rfl⟩
        replace H : ((tithebarnlaw13_VersionSort.f k1 x2_1).bind fun t324 => (if t324 = true then ((tithebarnlaw13_VersionSort.f k1 (([(⟨#[50]⟩ : ByteArray), (⟨#[49, 46, 49, 48]⟩ : ByteArray), (⟨#[49, 46, 50]⟩ : ByteArray), (⟨#[49, 46, 50, 45, 97]⟩ : ByteArray), (⟨#[49, 46, 50]⟩ : ByteArray)] : List ByteArray))).bind fun t328 => (if t328 = true then ((tithebarnlaw13_VersionPrint.f k1 y320 (⟨#[]⟩ : ByteArray)).bind fun t329 => (if t329 = true then ((tithebarnlaw13_VersionPrint.f k1 (([(-1)] : List Int)) (⟨#[]⟩ : ByteArray)).bind fun t333 => (if t333 = true then ((tithebarnlaw13_VersionPrint.f k1 (([1000000000] : List Int)) (⟨#[]⟩ : ByteArray)).bind fun t337 => (if t337 = true then ((tithebarnlaw13_VersionPrint.f k1 (([1] : List Int)) (⟨#[65]⟩ : ByteArray)).bind fun t341 => (if t341 = true then ((tithebarnlaw13_VersionOrder.f k1 y320 (⟨#[]⟩ : ByteArray) ([] : List Int) (⟨#[]⟩ : ByteArray) ([] : List Int) (⟨#[97]⟩ : ByteArray)).bind fun t342 => (if t342 = true then ((tithebarnlaw13_works.f).bind fun t343 => (some t343)) else (some false))) else (some false))) else (some false))) else (some false))) else (some false))) else (some false))) else (some false))) = some r := by first | (rw [hy320]; with_reducible exact H) | (have H2_ := (Option.bind_some _ _).symm.trans H; rw [hy320]; with_reducible exact H2_) | (have H2_ := (Option.bind_some _ _).symm.trans H; with_reducible exact H2_) | with_reducible exact H | (rw [hy320]; exact H) | exact H
        have Ny320 := Aside0.mk hy320
        clear hy320
        replace H := Option.bind_eq_some_iff.mp H
        obtain ⟨t324, A1100, H⟩ := H
        replace H : (if t324 = true then ((tithebarnlaw13_VersionSort.f k1 (([(⟨#[50]⟩ : ByteArray), (⟨#[49, 46, 49, 48]⟩ : ByteArray), (⟨#[49, 46, 50]⟩ : ByteArray), (⟨#[49, 46, 50, 45, 97]⟩ : ByteArray), (⟨#[49, 46, 50]⟩ : ByteArray)] : List ByteArray))).bind fun t328 => (if t328 = true then ((tithebarnlaw13_VersionPrint.f k1 y320 (⟨#[]⟩ : ByteArray)).bind fun t329 => (if t329 = true then ((tithebarnlaw13_VersionPrint.f k1 (([(-1)] : List Int)) (⟨#[]⟩ : ByteArray)).bind fun t333 => (if t333 = true then ((tithebarnlaw13_VersionPrint.f k1 (([1000000000] : List Int)) (⟨#[]⟩ : ByteArray)).bind fun t337 => (if t337 = true then ((tithebarnlaw13_VersionPrint.f k1 (([1] : List Int)) (⟨#[65]⟩ : ByteArray)).bind fun t341 => (if t341 = true then ((tithebarnlaw13_VersionOrder.f k1 y320 (⟨#[]⟩ : ByteArray) ([] : List Int) (⟨#[]⟩ : ByteArray) ([] : List Int) (⟨#[97]⟩ : ByteArray)).bind fun t342 => (if t342 = true then ((tithebarnlaw13_works.f).bind fun t343 => (some t343)) else (some false))) else (some false))) else (some false))) else (some false))) else (some false))) else (some false))) else (some false)) = some r := H
        have A110 := Aside0.mk A1100
        clear A1100
        by_cases c111 : t324 = true
        rotate_left
        · exact absurd (tithebarnlaw13_VersionSort_t A110.out) c111
        subst c111
        have H1 : ((tithebarnlaw13_VersionSort.f k1 (([(⟨#[50]⟩ : ByteArray), (⟨#[49, 46, 49, 48]⟩ : ByteArray), (⟨#[49, 46, 50]⟩ : ByteArray), (⟨#[49, 46, 50, 45, 97]⟩ : ByteArray), (⟨#[49, 46, 50]⟩ : ByteArray)] : List ByteArray))).bind fun t328 => (if t328 = true then ((tithebarnlaw13_VersionPrint.f k1 y320 (⟨#[]⟩ : ByteArray)).bind fun t329 => (if t329 = true then ((tithebarnlaw13_VersionPrint.f k1 (([(-1)] : List Int)) (⟨#[]⟩ : ByteArray)).bind fun t333 => (if t333 = true then ((tithebarnlaw13_VersionPrint.f k1 (([1000000000] : List Int)) (⟨#[]⟩ : ByteArray)).bind fun t337 => (if t337 = true then ((tithebarnlaw13_VersionPrint.f k1 (([1] : List Int)) (⟨#[65]⟩ : ByteArray)).bind fun t341 => (if t341 = true then ((tithebarnlaw13_VersionOrder.f k1 y320 (⟨#[]⟩ : ByteArray) ([] : List Int) (⟨#[]⟩ : ByteArray) ([] : List Int) (⟨#[97]⟩ : ByteArray)).bind fun t342 => (if t342 = true then ((tithebarnlaw13_works.f).bind fun t343 => (some t343)) else (some false))) else (some false))) else (some false))) else (some false))) else (some false))) else (some false))) = some r := by rw [if_pos rfl] at H; exact H
        clear H
        have H := H1
        clear H1
        obtain ⟨y325, hy325⟩ : ∃ y_ : List ByteArray, y_ = (([(⟨#[50]⟩ : ByteArray), (⟨#[49, 46, 49, 48]⟩ : ByteArray), (⟨#[49, 46, 50]⟩ : ByteArray), (⟨#[49, 46, 50, 45, 97]⟩ : ByteArray), (⟨#[49, 46, 50]⟩ : ByteArray)] : List ByteArray)) := ⟨_, rfl⟩
        replace H : ((tithebarnlaw13_VersionSort.f k1 y325).bind fun t328 => (if t328 = true then ((tithebarnlaw13_VersionPrint.f k1 y320 (⟨#[]⟩ : ByteArray)).bind fun t329 => (if t329 = true then ((tithebarnlaw13_VersionPrint.f k1 (([(-1)] : List Int)) (⟨#[]⟩ : ByteArray)).bind fun t333 => (if t333 = true then ((tithebarnlaw13_VersionPrint.f k1 (([1000000000] : List Int)) (⟨#[]⟩ : ByteArray)).bind fun t337 => (if t337 = true then ((tithebarnlaw13_VersionPrint.f k1 (([1] : List Int)) (⟨#[65]⟩ : ByteArray)).bind fun t341 => (if t341 = true then ((tithebarnlaw13_VersionOrder.f k1 y320 (⟨#[]⟩ : ByteArray) ([] : List Int) (⟨#[]⟩ : ByteArray) ([] : List Int) (⟨#[97]⟩ : ByteArray)).bind fun t342 => (if t342 = true then ((tithebarnlaw13_works.f).bind fun t343 => (some t343)) else (some false))) else (some false))) else (some false))) else (some false))) else (some false))) else (some false))) = some r := by first | (rw [hy325]; with_reducible exact H) | (have H2_ := (Option.bind_some _ _).symm.trans H; rw [hy325]; with_reducible exact H2_) | (have H2_ := (Option.bind_some _ _).symm.trans H; with_reducible exact H2_) | with_reducible exact H | (rw [hy325]; exact H) | exact H
        have Ny325 := Aside0.mk hy325
        clear hy325
        replace H := Option.bind_eq_some_iff.mp H
        obtain ⟨t328, A1120, H⟩ := H
        replace H : (if t328 = true then ((tithebarnlaw13_VersionPrint.f k1 y320 (⟨#[]⟩ : ByteArray)).bind fun t329 => (if t329 = true then ((tithebarnlaw13_VersionPrint.f k1 (([(-1)] : List Int)) (⟨#[]⟩ : ByteArray)).bind fun t333 => (if t333 = true then ((tithebarnlaw13_VersionPrint.f k1 (([1000000000] : List Int)) (⟨#[]⟩ : ByteArray)).bind fun t337 => (if t337 = true then ((tithebarnlaw13_VersionPrint.f k1 (([1] : List Int)) (⟨#[65]⟩ : ByteArray)).bind fun t341 => (if t341 = true then ((tithebarnlaw13_VersionOrder.f k1 y320 (⟨#[]⟩ : ByteArray) ([] : List Int) (⟨#[]⟩ : ByteArray) ([] : List Int) (⟨#[97]⟩ : ByteArray)).bind fun t342 => (if t342 = true then ((tithebarnlaw13_works.f).bind fun t343 => (some t343)) else (some false))) else (some false))) else (some false))) else (some false))) else (some false))) else (some false)) = some r := H
        have A112 := Aside0.mk A1120
        clear A1120
        by_cases c113 : t328 = true
        rotate_left
        · exact absurd (tithebarnlaw13_VersionSort_t A112.out) c113
        subst c113
        have H1 : ((tithebarnlaw13_VersionPrint.f k1 y320 (⟨#[]⟩ : ByteArray)).bind fun t329 => (if t329 = true then ((tithebarnlaw13_VersionPrint.f k1 (([(-1)] : List Int)) (⟨#[]⟩ : ByteArray)).bind fun t333 => (if t333 = true then ((tithebarnlaw13_VersionPrint.f k1 (([1000000000] : List Int)) (⟨#[]⟩ : ByteArray)).bind fun t337 => (if t337 = true then ((tithebarnlaw13_VersionPrint.f k1 (([1] : List Int)) (⟨#[65]⟩ : ByteArray)).bind fun t341 => (if t341 = true then ((tithebarnlaw13_VersionOrder.f k1 y320 (⟨#[]⟩ : ByteArray) ([] : List Int) (⟨#[]⟩ : ByteArray) ([] : List Int) (⟨#[97]⟩ : ByteArray)).bind fun t342 => (if t342 = true then ((tithebarnlaw13_works.f).bind fun t343 => (some t343)) else (some false))) else (some false))) else (some false))) else (some false))) else (some false))) = some r := by rw [if_pos rfl] at H; exact H
        clear H
        have H := H1
        clear H1
        replace H := Option.bind_eq_some_iff.mp H
        obtain ⟨t329, A1140, H⟩ := H
        replace H : (if t329 = true then ((tithebarnlaw13_VersionPrint.f k1 (([(-1)] : List Int)) (⟨#[]⟩ : ByteArray)).bind fun t333 => (if t333 = true then ((tithebarnlaw13_VersionPrint.f k1 (([1000000000] : List Int)) (⟨#[]⟩ : ByteArray)).bind fun t337 => (if t337 = true then ((tithebarnlaw13_VersionPrint.f k1 (([1] : List Int)) (⟨#[65]⟩ : ByteArray)).bind fun t341 => (if t341 = true then ((tithebarnlaw13_VersionOrder.f k1 y320 (⟨#[]⟩ : ByteArray) ([] : List Int) (⟨#[]⟩ : ByteArray) ([] : List Int) (⟨#[97]⟩ : ByteArray)).bind fun t342 => (if t342 = true then ((tithebarnlaw13_works.f).bind fun t343 => (some t343)) else (some false))) else (some false))) else (some false))) else (some false))) else (some false)) = some r := H
        have A114 := Aside0.mk A1140
        clear A1140
        by_cases c115 : t329 = true
        rotate_left
        · exact absurd (tithebarnlaw13_VersionPrint_t A114.out) c115
        subst c115
        have H1 : ((tithebarnlaw13_VersionPrint.f k1 (([(-1)] : List Int)) (⟨#[]⟩ : ByteArray)).bind fun t333 => (if t333 = true then ((tithebarnlaw13_VersionPrint.f k1 (([1000000000] : List Int)) (⟨#[]⟩ : ByteArray)).bind fun t337 => (if t337 = true then ((tithebarnlaw13_VersionPrint.f k1 (([1] : List Int)) (⟨#[65]⟩ : ByteArray)).bind fun t341 => (if t341 = true then ((tithebarnlaw13_VersionOrder.f k1 y320 (⟨#[]⟩ : ByteArray) ([] : List Int) (⟨#[]⟩ : ByteArray) ([] : List Int) (⟨#[97]⟩ : ByteArray)).bind fun t342 => (if t342 = true then ((tithebarnlaw13_works.f).bind fun t343 => (some t343)) else (some false))) else (some false))) else (some false))) else (some false))) = some r := by rw [if_pos rfl] at H; exact H
        clear H
        have H := H1
        clear H1
        obtain ⟨y330, hy330⟩ : ∃ y_ : List Int, y_ = (([(-1)] : List Int)) := ⟨_, rfl⟩
        replace H : ((tithebarnlaw13_VersionPrint.f k1 y330 (⟨#[]⟩ : ByteArray)).bind fun t333 => (if t333 = true then ((tithebarnlaw13_VersionPrint.f k1 (([1000000000] : List Int)) (⟨#[]⟩ : ByteArray)).bind fun t337 => (if t337 = true then ((tithebarnlaw13_VersionPrint.f k1 (([1] : List Int)) (⟨#[65]⟩ : ByteArray)).bind fun t341 => (if t341 = true then ((tithebarnlaw13_VersionOrder.f k1 y320 (⟨#[]⟩ : ByteArray) ([] : List Int) (⟨#[]⟩ : ByteArray) ([] : List Int) (⟨#[97]⟩ : ByteArray)).bind fun t342 => (if t342 = true then ((tithebarnlaw13_works.f).bind fun t343 => (some t343)) else (some false))) else (some false))) else (some false))) else (some false))) = some r := by first | (rw [hy330]; with_reducible exact H) | (have H2_ := (Option.bind_some _ _).symm.trans H; rw [hy330]; with_reducible exact H2_) | (have H2_ := (Option.bind_some _ _).symm.trans H; with_reducible exact H2_) | with_reducible exact H | (rw [hy330]; exact H) | exact H
        have Ny330 := Aside0.mk hy330
        clear hy330
        replace H := Option.bind_eq_some_iff.mp H
        obtain ⟨t333, A1160, H⟩ := H
        replace H : (if t333 = true then ((tithebarnlaw13_VersionPrint.f k1 (([1000000000] : List Int)) (⟨#[]⟩ : ByteArray)).bind fun t337 => (if t337 = true then ((tithebarnlaw13_VersionPrint.f k1 (([1] : List Int)) (⟨#[65]⟩ : ByteArray)).bind fun t341 => (if t341 = true then ((tithebarnlaw13_VersionOrder.f k1 y320 (⟨#[]⟩ : ByteArray) ([] : List Int) (⟨#[]⟩ : ByteArray) ([] : List Int) (⟨#[97]⟩ : ByteArray)).bind fun t342 => (if t342 = true then ((tithebarnlaw13_works.f).bind fun t343 => (some t343)) else (some false))) else (some false))) else (some false))) else (some false)) = some r := H
        have A116 := Aside0.mk A1160
        clear A1160
        by_cases c117 : t333 = true
        rotate_left
        · exact absurd (tithebarnlaw13_VersionPrint_t A116.out) c117
        subst c117
        have H1 : ((tithebarnlaw13_VersionPrint.f k1 (([1000000000] : List Int)) (⟨#[]⟩ : ByteArray)).bind fun t337 => (if t337 = true then ((tithebarnlaw13_VersionPrint.f k1 (([1] : List Int)) (⟨#[65]⟩ : ByteArray)).bind fun t341 => (if t341 = true then ((tithebarnlaw13_VersionOrder.f k1 y320 (⟨#[]⟩ : ByteArray) ([] : List Int) (⟨#[]⟩ : ByteArray) ([] : List Int) (⟨#[97]⟩ : ByteArray)).bind fun t342 => (if t342 = true then ((tithebarnlaw13_works.f).bind fun t343 => (some t343)) else (some false))) else (some false))) else (some false))) = some r := by rw [if_pos rfl] at H; exact H
        clear H
        have H := H1
        clear H1
        obtain ⟨y334, hy334⟩ : ∃ y_ : List Int, y_ = (([1000000000] : List Int)) := ⟨_, rfl⟩
        replace H : ((tithebarnlaw13_VersionPrint.f k1 y334 (⟨#[]⟩ : ByteArray)).bind fun t337 => (if t337 = true then ((tithebarnlaw13_VersionPrint.f k1 (([1] : List Int)) (⟨#[65]⟩ : ByteArray)).bind fun t341 => (if t341 = true then ((tithebarnlaw13_VersionOrder.f k1 y320 (⟨#[]⟩ : ByteArray) ([] : List Int) (⟨#[]⟩ : ByteArray) ([] : List Int) (⟨#[97]⟩ : ByteArray)).bind fun t342 => (if t342 = true then ((tithebarnlaw13_works.f).bind fun t343 => (some t343)) else (some false))) else (some false))) else (some false))) = some r := by first | (rw [hy334]; with_reducible exact H) | (have H2_ := (Option.bind_some _ _).symm.trans H; rw [hy334]; with_reducible exact H2_) | (have H2_ := (Option.bind_some _ _).symm.trans H; with_reducible exact H2_) | with_reducible exact H | (rw [hy334]; exact H) | exact H
        have Ny334 := Aside0.mk hy334
        clear hy334
        replace H := Option.bind_eq_some_iff.mp H
        obtain ⟨t337, A1180, H⟩ := H
        replace H : (if t337 = true then ((tithebarnlaw13_VersionPrint.f k1 (([1] : List Int)) (⟨#[65]⟩ : ByteArray)).bind fun t341 => (if t341 = true then ((tithebarnlaw13_VersionOrder.f k1 y320 (⟨#[]⟩ : ByteArray) ([] : List Int) (⟨#[]⟩ : ByteArray) ([] : List Int) (⟨#[97]⟩ : ByteArray)).bind fun t342 => (if t342 = true then ((tithebarnlaw13_works.f).bind fun t343 => (some t343)) else (some false))) else (some false))) else (some false)) = some r := H
        have A118 := Aside0.mk A1180
        clear A1180
        by_cases c119 : t337 = true
        rotate_left
        · exact absurd (tithebarnlaw13_VersionPrint_t A118.out) c119
        subst c119
        have H1 : ((tithebarnlaw13_VersionPrint.f k1 (([1] : List Int)) (⟨#[65]⟩ : ByteArray)).bind fun t341 => (if t341 = true then ((tithebarnlaw13_VersionOrder.f k1 y320 (⟨#[]⟩ : ByteArray) ([] : List Int) (⟨#[]⟩ : ByteArray) ([] : List Int) (⟨#[97]⟩ : ByteArray)).bind fun t342 => (if t342 = true then ((tithebarnlaw13_works.f).bind fun t343 => (some t343)) else (some false))) else (some false))) = some r := by rw [if_pos rfl] at H; exact H
        clear H
        have H := H1
        clear H1
        obtain ⟨y338, hy338⟩ : ∃ y_ : List Int, y_ = (([1] : List Int)) := ⟨_, rfl⟩
        replace H : ((tithebarnlaw13_VersionPrint.f k1 y338 (⟨#[65]⟩ : ByteArray)).bind fun t341 => (if t341 = true then ((tithebarnlaw13_VersionOrder.f k1 y320 (⟨#[]⟩ : ByteArray) ([] : List Int) (⟨#[]⟩ : ByteArray) ([] : List Int) (⟨#[97]⟩ : ByteArray)).bind fun t342 => (if t342 = true then ((tithebarnlaw13_works.f).bind fun t343 => (some t343)) else (some false))) else (some false))) = some r := by first | (rw [hy338]; with_reducible exact H) | (have H2_ := (Option.bind_some _ _).symm.trans H; rw [hy338]; with_reducible exact H2_) | (have H2_ := (Option.bind_some _ _).symm.trans H; with_reducible exact H2_) | with_reducible exact H | (rw [hy338]; exact H) | exact H
        have Ny338 := Aside0.mk hy338
        clear hy338
        replace H := Option.bind_eq_some_iff.mp H
        obtain ⟨t341, A1200, H⟩ := H
        replace H : (if t341 = true then ((tithebarnlaw13_VersionOrder.f k1 y320 (⟨#[]⟩ : ByteArray) ([] : List Int) (⟨#[]⟩ : ByteArray) ([] : List Int) (⟨#[97]⟩ : ByteArray)).bind fun t342 => (if t342 = true then ((tithebarnlaw13_works.f).bind fun t343 => (some t343)) else (some false))) else (some false)) = some r := H
        have A120 := Aside0.mk A1200
        clear A1200
        by_cases c121 : t341 = true
        rotate_left
        · exact absurd (tithebarnlaw13_VersionPrint_t A120.out) c121
        subst c121
        have H1 : ((tithebarnlaw13_VersionOrder.f k1 y320 (⟨#[]⟩ : ByteArray) ([] : List Int) (⟨#[]⟩ : ByteArray) ([] : List Int) (⟨#[97]⟩ : ByteArray)).bind fun t342 => (if t342 = true then ((tithebarnlaw13_works.f).bind fun t343 => (some t343)) else (some false))) = some r := by rw [if_pos rfl] at H; exact H
        clear H
        have H := H1
        clear H1
        replace H := Option.bind_eq_some_iff.mp H
        obtain ⟨t342, A1220, H⟩ := H
        replace H : (if t342 = true then ((tithebarnlaw13_works.f).bind fun t343 => (some t343)) else (some false)) = some r := H
        have A122 := Aside0.mk A1220
        clear A1220
        by_cases c123 : t342 = true
        rotate_left
        · exact absurd (tithebarnlaw13_VersionOrder_t A122.out) c123
        subst c123
        have H1 : ((tithebarnlaw13_works.f).bind fun t343 => (some t343)) = some r := by rw [if_pos rfl] at H; exact H
        clear H
        have H := H1
        clear H1
        replace H := Option.bind_eq_some_iff.mp H
        obtain ⟨t343, A1240, H⟩ := H
        replace H : (some t343) = some r := H
        have A124 := Aside0.mk A1240
        clear A1240
        obtain rfl := Option.some.inj H
        obtain ⟨Ao125, co125, eo125⟩ := Kd.R_slice HO_1.out
        subst eo125
        go_wp2_with (first | ((with_reducible refine gate_dst (N := 109) rfl ?_); (try (refine gate_guard (by rfl) ?_; dsimp only)); refine Kd.R_make (Kd.int .i64) _ 3 rfl (N := 109) rfl 22 _ _ rfl 9 rfl rfl Tryz.underlying22 (.int .i64 0) 8 info3 rfl (by decide) (by omega) 0 (ok := fun _ => True) (okp := fun _ => True) rfl (fun _ hk => hk) trivial (by omega) (by omega) (Below.refl _ _) (Nat.le_refl _) ?_; intro v321 w126 ho127 hb hg_ hnew_; clear hg_ hnew_; (first | rw [← Ny320.out] at ho127 | (simp only [Int.reduceToNat] at ho127; rw [← Ny320.out] at ho127)); have n0_ := Aside0.mk (Kd.R_below (by (with_reducible repeat (first | apply Kd.R_alloc | apply Kd.R_drewN | apply Kd.R_drew)); exact HO_1.out) hb); have n1_ := Aside0.mk (Kd.R_below (by (with_reducible repeat (first | apply Kd.R_alloc | apply Kd.R_drewN | apply Kd.R_drew)); exact HO_2.out) hb); have n2_ := Aside0.mk (Kd.R_lower ho127 (below_size tb)); have n3_ := Aside0.mk (below_step tb hb); clear HO_1; clear HO_2; clear HB; have HO_1 := n0_; have HO_2 := n1_; have HO322 := n2_; have HB := n3_; clear n0_ n1_ n2_ n3_; clear hb ho127; obtain ⟨Ao128, co128, eo128⟩ := Kd.R_slice HO322.out; subst eo128) | ((with_reducible refine gate_dst (N := 11) rfl ?_); (try (refine gate_guard (by rfl) ?_; dsimp only)); refine box_event ?hg (N := 11) ?hd (cs := #[.slice none 0 0, .string (⟨#[]⟩ : ByteArray)]) (t := 24) ?hr ?_; (case hd => rfl); (case hg => rfl); (case hr => first | (go_simp; done) | (go_simp; rfl)); intro gb323 hg w129 hbox hb; have n0_ := Aside0.mk (Kd.R_below (by (with_reducible repeat (first | apply Kd.R_alloc | apply Kd.R_drewN | apply Kd.R_drew)); exact HO_1.out) hb); have n1_ := Aside0.mk (Kd.R_below (by (with_reducible repeat (first | apply Kd.R_alloc | apply Kd.R_drewN | apply Kd.R_drew)); exact HO_2.out) hb); have n2_ := Aside0.mk (Kd.R_below (by (with_reducible repeat (first | apply Kd.R_alloc | apply Kd.R_drewN | apply Kd.R_drew)); exact HO322.out) hb); have n3_ := Aside0.mk (below_step tb hb); have n4_ := Aside0.mk (hbox); have n5_ := Aside0.mk ((by rw [hg]; exact (below_size tb) : w.heap.size ≤ gb323)); have n6_ := Aside0.mk ((by rw [hg]; exact (below_size tb) : w.heap.size ≤ gb323)); clear HO_1; clear HO_2; clear HO322; clear HB; have HO_1 := n0_; have HO_2 := n1_; have HO322 := n2_; have HB := n3_; have BK323 := n4_; have GW323 := n5_; have GE323 := n6_; clear n0_ n1_ n2_ n3_ n4_ n5_ n6_; clear hb hbox hg; have hcz130_0 : w129.cell? ⟨gb323, 0, none⟩ = some (.slice none 0 0) := (blk_cell BK323.out 0).trans rfl; have hcz130_1 : w129.cell? ⟨gb323, 1, none⟩ = some (.string (⟨#[]⟩ : ByteArray)) := (blk_cell BK323.out 1).trans rfl; have hfz130_0 := blk_frozen BK323.out 0; have hfz130_1 := blk_frozen BK323.out 1; obtain ⟨Ao131, co131, eo131⟩ := Kd.R_slice HO_2.out; subst eo131) | ((with_reducible refine gate_callee (f := 18) rfl ?_); refine goesL_ (some 112) rfl rfl Tryz.func18 (by kernel_rfl) rfl #[.slice Ao131 x2_1.length co131] rfl (by (try simp only [List.map_toArray, List.map_cons, List.map_nil]); first | done | rfl | (simp only [List.length_drop, List.length_take]; rfl)) ?_; (with_reducible refine (tithebarnlaw13_VersionSort.calls k1 _ _ x2_1 true _ ?side1 ?side2 ?side3 A110.out (tithebarnlaw13_VersionSort_t A110.out)).mono ?_); (case side1 => refine (Kd.R_reads' (e := 9) (base := w.heap.size) (ok := fun k_ => some k_ ≠ (.slice Ao125 y280.length co125 : Value).ownBlock) (n := x2_1.length) (c := co131) ?_).2.2; exact (by (with_reducible repeat (first | apply Kd.R_alloc | apply Kd.R_drewN | apply Kd.R_drew)); exact (Kd.R_mono (Kd.R_far (p := ⟨gb323, 1, none⟩) (Kd.R_far (p := ⟨gb323, 0, none⟩) (Kd.R_types HO_2.out BK323.out (by decide)) (fun _ hk => hk.2) (.slice Ao128 y320.length co128)) (fun _ hk => hk.2) (.string (⟨#[]⟩ : ByteArray))) (fun _ h_ => h_.1)))); (case side2 => exact (Kd.R_reads' HO_2.out).2.1); (case side3 => exact VTabs.below HTabs.out tb); rintro e w132 ⟨rfl, hb⟩; refine ⟨_, rfl, ?_⟩; have n0_ := Aside0.mk (Kd.R_below (by (with_reducible repeat (first | apply Kd.R_alloc | apply Kd.R_drewN | apply Kd.R_drew)); exact (Kd.R_mono (Kd.R_far (p := ⟨gb323, 1, none⟩) (Kd.R_far (p := ⟨gb323, 0, none⟩) (Kd.R_types HO_1.out BK323.out (by decide)) (fun _ hk => hk.2) (.slice Ao128 y320.length co128)) (fun _ hk => hk.2) (.string (⟨#[]⟩ : ByteArray))) (fun _ h_ => h_.1))) hb); have n1_ := Aside0.mk (Kd.R_below (by (with_reducible repeat (first | apply Kd.R_alloc | apply Kd.R_drewN | apply Kd.R_drew)); exact (Kd.R_mono (Kd.R_far (p := ⟨gb323, 1, none⟩) (Kd.R_far (p := ⟨gb323, 0, none⟩) (Kd.R_types HO_2.out BK323.out (by decide)) (fun _ hk => hk.2) (.slice Ao128 y320.length co128)) (fun _ hk => hk.2) (.string (⟨#[]⟩ : ByteArray))) (fun _ h_ => h_.1))) hb); have n2_ := Aside0.mk (Kd.R_below (by (with_reducible repeat (first | apply Kd.R_alloc | apply Kd.R_drewN | apply Kd.R_drew)); exact (Kd.R_mono (Kd.R_far (p := ⟨gb323, 1, none⟩) (Kd.R_far (p := ⟨gb323, 0, none⟩) (Kd.R_types HO322.out BK323.out (by decide)) (fun _ hk => hk.2) (.slice Ao128 y320.length co128)) (fun _ hk => hk.2) (.string (⟨#[]⟩ : ByteArray))) (fun _ h_ => h_.1))) hb); have n3_ := Aside0.mk (blk_below (g := gb323) (o := .cells #[.slice Ao128 y320.length co128, .string (⟨#[]⟩ : ByteArray)] 24 (0, 0)) (by (with_reducible repeat (first | refine blk_drewN ?_ _ | refine blk_drew ?_ | refine blk_alloc ?_ _)); refine blk_put (cs := #[.slice Ao128 y320.length co128, .string (⟨#[]⟩ : ByteArray)]) ?_ 1 _ rfl; (with_reducible repeat (first | refine blk_drewN ?_ _ | refine blk_drew ?_ | refine blk_alloc ?_ _)); refine blk_put (cs := #[.slice none 0 0, .string (⟨#[]⟩ : ByteArray)]) ?_ 0 _ rfl; (with_reducible repeat (first | refine blk_drewN ?_ _ | refine blk_drew ?_ | refine blk_alloc ?_ _)); exact BK323.out) hb); have n4_ := Aside0.mk (below_step tb hb); clear HO_1; clear HO_2; clear HO322; clear BK323; clear HB; have HO_1 := n0_; have HO_2 := n1_; have HO322 := n2_; have BK323 := n3_; have HB := n4_; clear n0_ n1_ n2_ n3_ n4_; (try clear hb); (try clear hb2); (try clear hk); (try clear hi)) | ((with_reducible refine gate_dst (N := 114) rfl ?_); (try (refine gate_guard (by rfl) ?_; dsimp only)); refine Kd.R_lit Kd.string _ 9 ?hg (N := 114) ?hd (xs := ([(⟨#[50]⟩ : ByteArray), (⟨#[49, 46, 49, 48]⟩ : ByteArray), (⟨#[49, 46, 50]⟩ : ByteArray), (⟨#[49, 46, 50, 45, 97]⟩ : ByteArray), (⟨#[49, 46, 50]⟩ : ByteArray)] : List ByteArray)) (inner := [.string (⟨#[50]⟩ : ByteArray), .string (⟨#[49, 46, 49, 48]⟩ : ByteArray), .string (⟨#[49, 46, 50]⟩ : ByteArray), .string (⟨#[49, 46, 50, 45, 97]⟩ : ByteArray), .string (⟨#[49, 46, 50]⟩ : ByteArray)]) (ok := fun _ => True) (okp := fun _ => True) ?hr ?hp (fun _ hk => hk) trivial (Below.refl _ _) (Nat.le_refl _) (by simp) ?_; (case hd => rfl); (case hg => rfl); (case hr => first | (go_simp; done) | (go_simp; rfl)); (case hp => exact (Reps.one (show Kd.M Kd.string _ _ _ (⟨#[50]⟩ : ByteArray) [.string (⟨#[50]⟩ : ByteArray)] from rfl) (Reps.one (show Kd.M Kd.string _ _ _ (⟨#[49, 46, 49, 48]⟩ : ByteArray) [.string (⟨#[49, 46, 49, 48]⟩ : ByteArray)] from rfl) (Reps.one (show Kd.M Kd.string _ _ _ (⟨#[49, 46, 50]⟩ : ByteArray) [.string (⟨#[49, 46, 50]⟩ : ByteArray)] from rfl) (Reps.one (show Kd.M Kd.string _ _ _ (⟨#[49, 46, 50, 45, 97]⟩ : ByteArray) [.string (⟨#[49, 46, 50, 45, 97]⟩ : ByteArray)] from rfl) (Reps.one (show Kd.M Kd.string _ _ _ (⟨#[49, 46, 50]⟩ : ByteArray) [.string (⟨#[49, 46, 50]⟩ : ByteArray)] from rfl) (Reps.none _ _))))))); intro v326 w133 ho134 hb hg_ hnew_; clear hg_ hnew_; (first | rw [← Ny325.out] at ho134 | (simp only [Int.reduceToNat] at ho134; rw [← Ny325.out] at ho134)); have n0_ := Aside0.mk (Kd.R_elder' (by (with_reducible repeat (first | apply Kd.R_alloc | apply Kd.R_drewN | apply Kd.R_drew)); exact HO_1.out) (Kd.R_base ho134) hb); have n1_ := Aside0.mk (Kd.R_elder' (by (with_reducible repeat (first | apply Kd.R_alloc | apply Kd.R_drewN | apply Kd.R_drew)); exact HO_2.out) (Kd.R_base ho134) hb); have n2_ := Aside0.mk (Kd.R_below (by (with_reducible repeat (first | apply Kd.R_alloc | apply Kd.R_drewN | apply Kd.R_drew)); exact HO322.out) hb); have n3_ := Aside0.mk (Kd.R_lower (Kd.R_new' (Kd.R_new' ho134 (Kd.R_lt (by (with_reducible repeat (first | apply Kd.R_alloc | apply Kd.R_drewN | apply Kd.R_drew)); exact HO_1.out))) (Kd.R_lt (by (with_reducible repeat (first | apply Kd.R_alloc | apply Kd.R_drewN | apply Kd.R_drew)); exact HO_2.out))) (below_size tb)); have n4_ := Aside0.mk (blk_below (g := gb323) (o := .cells #[.slice Ao128 y320.length co128, .string (⟨#[]⟩ : ByteArray)] 24 (0, 0)) tk hb); have n5_ := Aside0.mk (below_step tb hb); clear HO_1; clear HO_2; clear HO322; clear BK323; clear HB; have HO_1 := n0_; have HO_2 := n1_; have HO322 := n2_; have HO327 := n3_; have BK323 := n4_; have HB := n5_; clear n0_ n1_ n2_ n3_ n4_ n5_; clear hb ho134; obtain ⟨Ao135, co135, eo135⟩ := Kd.R_slice HO327.out; subst eo135) | (go_at_call 18; (with_reducible refine (tithebarnlaw13_VersionSort.calls k1 _ _ y325 true _ ?side1 ?side2 ?side3 A112.out (tithebarnlaw13_VersionSort_t A112.out)).mono ?_); (case side1 => repeat (first | exact (Kd.R_reads' HO327.out).2.2 | (with_reducible refine Kd.C_alloc ?_ _) | (with_reducible refine Kd.C_drewN ?_ _) | (with_reducible refine Kd.C_drew ?_))); (case side2 => exact (Kd.R_reads' HO327.out).2.1); (case side3 => exact VTabs.below HTabs.out tb); rintro e w136 ⟨rfl, hb⟩; have n0_ := Aside0.mk (Kd.R_below (by (with_reducible repeat (first | apply Kd.R_alloc | apply Kd.R_drewN | apply Kd.R_drew)); exact HO_1.out) hb); have n1_ := Aside0.mk (Kd.R_below (by (with_reducible repeat (first | apply Kd.R_alloc | apply Kd.R_drewN | apply Kd.R_drew)); exact HO_2.out) hb); have n2_ := Aside0.mk (Kd.R_below (by (with_reducible repeat (first | apply Kd.R_alloc | apply Kd.R_drewN | apply Kd.R_drew)); exact HO322.out) hb); have n3_ := Aside0.mk (Kd.R_below (by (with_reducible repeat (first | apply Kd.R_alloc | apply Kd.R_drewN | apply Kd.R_drew)); exact HO327.out) hb); have n4_ := Aside0.mk (blk_below (g := gb323) (o := .cells #[.slice Ao128 y320.length co128, .string (⟨#[]⟩ : ByteArray)] 24 (0, 0)) tk hb); have n5_ := Aside0.mk (below_step tb hb); clear HO_1; clear HO_2; clear HO322; clear HO327; clear BK323; clear HB; have HO_1 := n0_; have HO_2 := n1_; have HO322 := n2_; have HO327 := n3_; have BK323 := n4_; have HB := n5_; clear n0_ n1_ n2_ n3_ n4_ n5_; (try clear hb); (try clear hb2); (try clear hk); (try clear hi); have hcz137_0 : w136.cell? ⟨gb323, 0, none⟩ = some (.slice Ao128 y320.length co128) := (blk_cell BK323.out 0).trans rfl; have hcz137_1 : w136.cell? ⟨gb323, 1, none⟩ = some (.string (⟨#[]⟩ : ByteArray)) := (blk_cell BK323.out 1).trans rfl; have hfz137_0 := blk_frozen BK323.out 0; have hfz137_1 := blk_frozen BK323.out 1) | (go_at_call 3; (with_reducible refine (tithebarnlaw13_VersionPrint.calls k1 _ _ y320 (⟨#[]⟩ : ByteArray) true _ ?side1 ?side2 ?side3 A114.out (tithebarnlaw13_VersionPrint_t A114.out)).mono ?_); (case side1 => repeat (first | exact (Kd.R_reads' HO322.out).2.2 | (with_reducible refine Kd.C_alloc ?_ _) | (with_reducible refine Kd.C_drewN ?_ _) | (with_reducible refine Kd.C_drew ?_))); (case side2 => exact (Kd.R_reads' HO322.out).2.1); (case side3 => exact VTabs.below HTabs.out tb); rintro e w138 ⟨rfl, hb⟩; have n0_ := Aside0.mk (Kd.R_below (by (with_reducible repeat (first | apply Kd.R_alloc | apply Kd.R_drewN | apply Kd.R_drew)); exact HO_1.out) hb); have n1_ := Aside0.mk (Kd.R_below (by (with_reducible repeat (first | apply Kd.R_alloc | apply Kd.R_drewN | apply Kd.R_drew)); exact HO_2.out) hb); have n2_ := Aside0.mk (Kd.R_below (by (with_reducible repeat (first | apply Kd.R_alloc | apply Kd.R_drewN | apply Kd.R_drew)); exact HO322.out) hb); have n3_ := Aside0.mk (Kd.R_below (by (with_reducible repeat (first | apply Kd.R_alloc | apply Kd.R_drewN | apply Kd.R_drew)); exact HO327.out) hb); have n4_ := Aside0.mk (blk_below (g := gb323) (o := .cells #[.slice Ao128 y320.length co128, .string (⟨#[]⟩ : ByteArray)] 24 (0, 0)) tk hb); have n5_ := Aside0.mk (below_step tb hb); clear HO_1; clear HO_2; clear HO322; clear HO327; clear BK323; clear HB; have HO_1 := n0_; have HO_2 := n1_; have HO322 := n2_; have HO327 := n3_; have BK323 := n4_; have HB := n5_; clear n0_ n1_ n2_ n3_ n4_ n5_; (try clear hb); (try clear hb2); (try clear hk); (try clear hi)) | ((with_reducible refine gate_dst (N := 122) rfl ?_); (try (refine gate_guard (by rfl) ?_; dsimp only)); refine Kd.R_lit (Kd.int .i64) _ 3 ?hg (N := 122) ?hd (xs := ([(-1)] : List Int)) (inner := [.int .i64 (-1)]) (ok := fun _ => True) (okp := fun _ => True) ?hr ?hp (fun _ hk => hk) trivial (Below.refl _ _) (Nat.le_refl _) (by simp) ?_; (case hd => rfl); (case hg => rfl); (case hr => first | (go_simp; done) | (go_simp; rfl)); (case hp => exact (Reps.one (show Kd.M (Kd.int .i64) _ _ _ (-1) [.int .i64 (-1)] from rfl) (Reps.none _ _))); intro v331 w139 ho140 hb hg_ hnew_; clear hg_ hnew_; (first | rw [← Ny330.out] at ho140 | (simp only [Int.reduceToNat] at ho140; rw [← Ny330.out] at ho140)); have n0_ := Aside0.mk (Kd.R_below (by (with_reducible repeat (first | apply Kd.R_alloc | apply Kd.R_drewN | apply Kd.R_drew)); exact HO_1.out) hb); have n1_ := Aside0.mk (Kd.R_below (by (with_reducible repeat (first | apply Kd.R_alloc | apply Kd.R_drewN | apply Kd.R_drew)); exact HO_2.out) hb); have n2_ := Aside0.mk (Kd.R_elder' (by (with_reducible repeat (first | apply Kd.R_alloc | apply Kd.R_drewN | apply Kd.R_drew)); exact HO322.out) (Kd.R_base ho140) hb); have n3_ := Aside0.mk (Kd.R_below (by (with_reducible repeat (first | apply Kd.R_alloc | apply Kd.R_drewN | apply Kd.R_drew)); exact HO327.out) hb); have n4_ := Aside0.mk (Kd.R_lower (Kd.R_new' ho140 (Kd.R_lt (by (with_reducible repeat (first | apply Kd.R_alloc | apply Kd.R_drewN | apply Kd.R_drew)); exact HO322.out))) (below_size tb)); have n5_ := Aside0.mk (blk_below (g := gb323) (o := .cells #[.slice Ao128 y320.length co128, .string (⟨#[]⟩ : ByteArray)] 24 (0, 0)) tk hb); have n6_ := Aside0.mk (below_step tb hb); clear HO_1; clear HO_2; clear HO322; clear HO327; clear BK323; clear HB; have HO_1 := n0_; have HO_2 := n1_; have HO322 := n2_; have HO327 := n3_; have HO332 := n4_; have BK323 := n5_; have HB := n6_; clear n0_ n1_ n2_ n3_ n4_ n5_ n6_; clear hb ho140; obtain ⟨Ao141, co141, eo141⟩ := Kd.R_slice HO332.out; subst eo141) | (go_at_call 3; (with_reducible refine (tithebarnlaw13_VersionPrint.calls k1 _ _ y330 (⟨#[]⟩ : ByteArray) true _ ?side1 ?side2 ?side3 A116.out (tithebarnlaw13_VersionPrint_t A116.out)).mono ?_); (case side1 => repeat (first | exact (Kd.R_reads' HO332.out).2.2 | (with_reducible refine Kd.C_alloc ?_ _) | (with_reducible refine Kd.C_drewN ?_ _) | (with_reducible refine Kd.C_drew ?_))); (case side2 => exact (Kd.R_reads' HO332.out).2.1); (case side3 => exact VTabs.below HTabs.out tb); rintro e w142 ⟨rfl, hb⟩; have n0_ := Aside0.mk (Kd.R_below (by (with_reducible repeat (first | apply Kd.R_alloc | apply Kd.R_drewN | apply Kd.R_drew)); exact HO_1.out) hb); have n1_ := Aside0.mk (Kd.R_below (by (with_reducible repeat (first | apply Kd.R_alloc | apply Kd.R_drewN | apply Kd.R_drew)); exact HO_2.out) hb); have n2_ := Aside0.mk (Kd.R_below (by (with_reducible repeat (first | apply Kd.R_alloc | apply Kd.R_drewN | apply Kd.R_drew)); exact HO322.out) hb); have n3_ := Aside0.mk (Kd.R_below (by (with_reducible repeat (first | apply Kd.R_alloc | apply Kd.R_drewN | apply Kd.R_drew)); exact HO327.out) hb); have n4_ := Aside0.mk (Kd.R_below (by (with_reducible repeat (first | apply Kd.R_alloc | apply Kd.R_drewN | apply Kd.R_drew)); exact HO332.out) hb); have n5_ := Aside0.mk (blk_below (g := gb323) (o := .cells #[.slice Ao128 y320.length co128, .string (⟨#[]⟩ : ByteArray)] 24 (0, 0)) tk hb); have n6_ := Aside0.mk (below_step tb hb); clear HO_1; clear HO_2; clear HO322; clear HO327; clear HO332; clear BK323; clear HB; have HO_1 := n0_; have HO_2 := n1_; have HO322 := n2_; have HO327 := n3_; have HO332 := n4_; have BK323 := n5_; have HB := n6_; clear n0_ n1_ n2_ n3_ n4_ n5_ n6_; (try clear hb); (try clear hb2); (try clear hk); (try clear hi)) | ((with_reducible refine gate_dst (N := 127) rfl ?_); (try (refine gate_guard (by rfl) ?_; dsimp only)); refine Kd.R_lit (Kd.int .i64) _ 3 ?hg (N := 127) ?hd (xs := ([1000000000] : List Int)) (inner := [.int .i64 1000000000]) (ok := fun _ => True) (okp := fun _ => True) ?hr ?hp (fun _ hk => hk) trivial (Below.refl _ _) (Nat.le_refl _) (by simp) ?_; (case hd => rfl); (case hg => rfl); (case hr => first | (go_simp; done) | (go_simp; rfl)); (case hp => exact (Reps.one (show Kd.M (Kd.int .i64) _ _ _ 1000000000 [.int .i64 1000000000] from rfl) (Reps.none _ _))); intro v335 w143 ho144 hb hg_ hnew_; clear hg_ hnew_; (first | rw [← Ny334.out] at ho144 | (simp only [Int.reduceToNat] at ho144; rw [← Ny334.out] at ho144)); have n0_ := Aside0.mk (Kd.R_below (by (with_reducible repeat (first | apply Kd.R_alloc | apply Kd.R_drewN | apply Kd.R_drew)); exact HO_1.out) hb); have n1_ := Aside0.mk (Kd.R_below (by (with_reducible repeat (first | apply Kd.R_alloc | apply Kd.R_drewN | apply Kd.R_drew)); exact HO_2.out) hb); have n2_ := Aside0.mk (Kd.R_elder' (by (with_reducible repeat (first | apply Kd.R_alloc | apply Kd.R_drewN | apply Kd.R_drew)); exact HO322.out) (Kd.R_base ho144) hb); have n3_ := Aside0.mk (Kd.R_below (by (with_reducible repeat (first | apply Kd.R_alloc | apply Kd.R_drewN | apply Kd.R_drew)); exact HO327.out) hb); have n4_ := Aside0.mk (Kd.R_elder' (by (with_reducible repeat (first | apply Kd.R_alloc | apply Kd.R_drewN | apply Kd.R_drew)); exact HO332.out) (Kd.R_base ho144) hb); have n5_ := Aside0.mk (Kd.R_lower (Kd.R_new' (Kd.R_new' ho144 (Kd.R_lt (by (with_reducible repeat (first | apply Kd.R_alloc | apply Kd.R_drewN | apply Kd.R_drew)); exact HO322.out))) (Kd.R_lt (by (with_reducible repeat (first | apply Kd.R_alloc | apply Kd.R_drewN | apply Kd.R_drew)); exact HO332.out))) (below_size tb)); have n6_ := Aside0.mk (blk_below (g := gb323) (o := .cells #[.slice Ao128 y320.length co128, .string (⟨#[]⟩ : ByteArray)] 24 (0, 0)) tk hb); have n7_ := Aside0.mk (below_step tb hb); clear HO_1; clear HO_2; clear HO322; clear HO327; clear HO332; clear BK323; clear HB; have HO_1 := n0_; have HO_2 := n1_; have HO322 := n2_; have HO327 := n3_; have HO332 := n4_; have HO336 := n5_; have BK323 := n6_; have HB := n7_; clear n0_ n1_ n2_ n3_ n4_ n5_ n6_ n7_; clear hb ho144; obtain ⟨Ao145, co145, eo145⟩ := Kd.R_slice HO336.out; subst eo145) | (go_at_call 3; (with_reducible refine (tithebarnlaw13_VersionPrint.calls k1 _ _ y334 (⟨#[]⟩ : ByteArray) true _ ?side1 ?side2 ?side3 A118.out (tithebarnlaw13_VersionPrint_t A118.out)).mono ?_); (case side1 => repeat (first | exact (Kd.R_reads' HO336.out).2.2 | (with_reducible refine Kd.C_alloc ?_ _) | (with_reducible refine Kd.C_drewN ?_ _) | (with_reducible refine Kd.C_drew ?_))); (case side2 => exact (Kd.R_reads' HO336.out).2.1); (case side3 => exact VTabs.below HTabs.out tb); rintro e w146 ⟨rfl, hb⟩; have n0_ := Aside0.mk (Kd.R_below (by (with_reducible repeat (first | apply Kd.R_alloc | apply Kd.R_drewN | apply Kd.R_drew)); exact HO_1.out) hb); have n1_ := Aside0.mk (Kd.R_below (by (with_reducible repeat (first | apply Kd.R_alloc | apply Kd.R_drewN | apply Kd.R_drew)); exact HO_2.out) hb); have n2_ := Aside0.mk (Kd.R_below (by (with_reducible repeat (first | apply Kd.R_alloc | apply Kd.R_drewN | apply Kd.R_drew)); exact HO322.out) hb); have n3_ := Aside0.mk (Kd.R_below (by (with_reducible repeat (first | apply Kd.R_alloc | apply Kd.R_drewN | apply Kd.R_drew)); exact HO327.out) hb); have n4_ := Aside0.mk (Kd.R_below (by (with_reducible repeat (first | apply Kd.R_alloc | apply Kd.R_drewN | apply Kd.R_drew)); exact HO332.out) hb); have n5_ := Aside0.mk (Kd.R_below (by (with_reducible repeat (first | apply Kd.R_alloc | apply Kd.R_drewN | apply Kd.R_drew)); exact HO336.out) hb); have n6_ := Aside0.mk (blk_below (g := gb323) (o := .cells #[.slice Ao128 y320.length co128, .string (⟨#[]⟩ : ByteArray)] 24 (0, 0)) tk hb); have n7_ := Aside0.mk (below_step tb hb); clear HO_1; clear HO_2; clear HO322; clear HO327; clear HO332; clear HO336; clear BK323; clear HB; have HO_1 := n0_; have HO_2 := n1_; have HO322 := n2_; have HO327 := n3_; have HO332 := n4_; have HO336 := n5_; have BK323 := n6_; have HB := n7_; clear n0_ n1_ n2_ n3_ n4_ n5_ n6_ n7_; (try clear hb); (try clear hb2); (try clear hk); (try clear hi)) | ((with_reducible refine gate_dst (N := 132) rfl ?_); (try (refine gate_guard (by rfl) ?_; dsimp only)); refine Kd.R_lit (Kd.int .i64) _ 3 ?hg (N := 132) ?hd (xs := ([1] : List Int)) (inner := [.int .i64 1]) (ok := fun _ => True) (okp := fun _ => True) ?hr ?hp (fun _ hk => hk) trivial (Below.refl _ _) (Nat.le_refl _) (by simp) ?_; (case hd => rfl); (case hg => rfl); (case hr => first | (go_simp; done) | (go_simp; rfl)); (case hp => exact (Reps.one (show Kd.M (Kd.int .i64) _ _ _ 1 [.int .i64 1] from rfl) (Reps.none _ _))); intro v339 w147 ho148 hb hg_ hnew_; clear hg_ hnew_; (first | rw [← Ny338.out] at ho148 | (simp only [Int.reduceToNat] at ho148; rw [← Ny338.out] at ho148)); have n0_ := Aside0.mk (Kd.R_below (by (with_reducible repeat (first | apply Kd.R_alloc | apply Kd.R_drewN | apply Kd.R_drew)); exact HO_1.out) hb); have n1_ := Aside0.mk (Kd.R_below (by (with_reducible repeat (first | apply Kd.R_alloc | apply Kd.R_drewN | apply Kd.R_drew)); exact HO_2.out) hb); have n2_ := Aside0.mk (Kd.R_elder' (by (with_reducible repeat (first | apply Kd.R_alloc | apply Kd.R_drewN | apply Kd.R_drew)); exact HO322.out) (Kd.R_base ho148) hb); have n3_ := Aside0.mk (Kd.R_below (by (with_reducible repeat (first | apply Kd.R_alloc | apply Kd.R_drewN | apply Kd.R_drew)); exact HO327.out) hb); have n4_ := Aside0.mk (Kd.R_elder' (by (with_reducible repeat (first | apply Kd.R_alloc | apply Kd.R_drewN | apply Kd.R_drew)); exact HO332.out) (Kd.R_base ho148) hb); have n5_ := Aside0.mk (Kd.R_elder' (by (with_reducible repeat (first | apply Kd.R_alloc | apply Kd.R_drewN | apply Kd.R_drew)); exact HO336.out) (Kd.R_base ho148) hb); have n6_ := Aside0.mk (Kd.R_lower (Kd.R_new' (Kd.R_new' (Kd.R_new' ho148 (Kd.R_lt (by (with_reducible repeat (first | apply Kd.R_alloc | apply Kd.R_drewN | apply Kd.R_drew)); exact HO322.out))) (Kd.R_lt (by (with_reducible repeat (first | apply Kd.R_alloc | apply Kd.R_drewN | apply Kd.R_drew)); exact HO332.out))) (Kd.R_lt (by (with_reducible repeat (first | apply Kd.R_alloc | apply Kd.R_drewN | apply Kd.R_drew)); exact HO336.out))) (below_size tb)); have n7_ := Aside0.mk (blk_below (g := gb323) (o := .cells #[.slice Ao128 y320.length co128, .string (⟨#[]⟩ : ByteArray)] 24 (0, 0)) tk hb); have n8_ := Aside0.mk (below_step tb hb); clear HO_1; clear HO_2; clear HO322; clear HO327; clear HO332; clear HO336; clear BK323; clear HB; have HO_1 := n0_; have HO_2 := n1_; have HO322 := n2_; have HO327 := n3_; have HO332 := n4_; have HO336 := n5_; have HO340 := n6_; have BK323 := n7_; have HB := n8_; clear n0_ n1_ n2_ n3_ n4_ n5_ n6_ n7_ n8_; clear hb ho148; obtain ⟨Ao149, co149, eo149⟩ := Kd.R_slice HO340.out; subst eo149) | (go_at_call 3; (with_reducible refine (tithebarnlaw13_VersionPrint.calls k1 _ _ y338 (⟨#[65]⟩ : ByteArray) true _ ?side1 ?side2 ?side3 A120.out (tithebarnlaw13_VersionPrint_t A120.out)).mono ?_); (case side1 => repeat (first | exact (Kd.R_reads' HO340.out).2.2 | (with_reducible refine Kd.C_alloc ?_ _) | (with_reducible refine Kd.C_drewN ?_ _) | (with_reducible refine Kd.C_drew ?_))); (case side2 => exact (Kd.R_reads' HO340.out).2.1); (case side3 => exact VTabs.below HTabs.out tb); rintro e w150 ⟨rfl, hb⟩; have n0_ := Aside0.mk (Kd.R_below (by (with_reducible repeat (first | apply Kd.R_alloc | apply Kd.R_drewN | apply Kd.R_drew)); exact HO_1.out) hb); have n1_ := Aside0.mk (Kd.R_below (by (with_reducible repeat (first | apply Kd.R_alloc | apply Kd.R_drewN | apply Kd.R_drew)); exact HO_2.out) hb); have n2_ := Aside0.mk (Kd.R_below (by (with_reducible repeat (first | apply Kd.R_alloc | apply Kd.R_drewN | apply Kd.R_drew)); exact HO322.out) hb); have n3_ := Aside0.mk (Kd.R_below (by (with_reducible repeat (first | apply Kd.R_alloc | apply Kd.R_drewN | apply Kd.R_drew)); exact HO327.out) hb); have n4_ := Aside0.mk (Kd.R_below (by (with_reducible repeat (first | apply Kd.R_alloc | apply Kd.R_drewN | apply Kd.R_drew)); exact HO332.out) hb); have n5_ := Aside0.mk (Kd.R_below (by (with_reducible repeat (first | apply Kd.R_alloc | apply Kd.R_drewN | apply Kd.R_drew)); exact HO336.out) hb); have n6_ := Aside0.mk (Kd.R_below (by (with_reducible repeat (first | apply Kd.R_alloc | apply Kd.R_drewN | apply Kd.R_drew)); exact HO340.out) hb); have n7_ := Aside0.mk (blk_below (g := gb323) (o := .cells #[.slice Ao128 y320.length co128, .string (⟨#[]⟩ : ByteArray)] 24 (0, 0)) tk hb); have n8_ := Aside0.mk (below_step tb hb); clear HO_1; clear HO_2; clear HO322; clear HO327; clear HO332; clear HO336; clear HO340; clear BK323; clear HB; have HO_1 := n0_; have HO_2 := n1_; have HO322 := n2_; have HO327 := n3_; have HO332 := n4_; have HO336 := n5_; have HO340 := n6_; have BK323 := n7_; have HB := n8_; clear n0_ n1_ n2_ n3_ n4_ n5_ n6_ n7_ n8_; (try clear hb); (try clear hb2); (try clear hk); (try clear hi); have hcz151_0 : w150.cell? ⟨gb323, 0, none⟩ = some (.slice Ao128 y320.length co128) := (blk_cell BK323.out 0).trans rfl; have hcz151_1 : w150.cell? ⟨gb323, 1, none⟩ = some (.string (⟨#[]⟩ : ByteArray)) := (blk_cell BK323.out 1).trans rfl; have hfz151_0 := blk_frozen BK323.out 0; have hfz151_1 := blk_frozen BK323.out 1) | (go_at_call 20; (refine (tithebarnlaw13_VersionOrder.calls k1 _ _ y320 (⟨#[]⟩ : ByteArray) _ _ ([] : List Int) (⟨#[]⟩ : ByteArray) _ _ ([] : List Int) (⟨#[97]⟩ : ByteArray) true _ ?side1 ?side2 ?side3 ?side4 ?side5 ?side6 ?side7 A122.out (tithebarnlaw13_VersionOrder_t A122.out)).mono ?_); (case side1 => repeat (first | exact (Kd.R_reads' HO322.out).2.2 | (with_reducible refine Kd.C_alloc ?_ _) | (with_reducible refine Kd.C_drewN ?_ _) | (with_reducible refine Kd.C_drew ?_))); (case side2 => exact (Kd.R_reads' HO322.out).2.1); (case side3 => exact Kd.C_nil _ _); (case side4 => exact Nat.le_refl _); (case side5 => exact Kd.C_nil _ _); (case side6 => exact Nat.le_refl _); (case side7 => exact VTabs.below HTabs.out tb); rintro e w152 ⟨rfl, hb⟩; have n0_ := Aside0.mk (Kd.R_below (by (with_reducible repeat (first | apply Kd.R_alloc | apply Kd.R_drewN | apply Kd.R_drew)); exact HO_1.out) hb); have n1_ := Aside0.mk (Kd.R_below (by (with_reducible repeat (first | apply Kd.R_alloc | apply Kd.R_drewN | apply Kd.R_drew)); exact HO_2.out) hb); have n2_ := Aside0.mk (Kd.R_below (by (with_reducible repeat (first | apply Kd.R_alloc | apply Kd.R_drewN | apply Kd.R_drew)); exact HO322.out) hb); have n3_ := Aside0.mk (Kd.R_below (by (with_reducible repeat (first | apply Kd.R_alloc | apply Kd.R_drewN | apply Kd.R_drew)); exact HO327.out) hb); have n4_ := Aside0.mk (Kd.R_below (by (with_reducible repeat (first | apply Kd.R_alloc | apply Kd.R_drewN | apply Kd.R_drew)); exact HO332.out) hb); have n5_ := Aside0.mk (Kd.R_below (by (with_reducible repeat (first | apply Kd.R_alloc | apply Kd.R_drewN | apply Kd.R_drew)); exact HO336.out) hb); have n6_ := Aside0.mk (Kd.R_below (by (with_reducible repeat (first | apply Kd.R_alloc | apply Kd.R_drewN | apply Kd.R_drew)); exact HO340.out) hb); have n7_ := Aside0.mk (blk_below (g := gb323) (o := .cells #[.slice Ao128 y320.length co128, .string (⟨#[]⟩ : ByteArray)] 24 (0, 0)) tk hb); have n8_ := Aside0.mk (below_step tb hb); clear HO_1; clear HO_2; clear HO322; clear HO327; clear HO332; clear HO336; clear HO340; clear BK323; clear HB; have HO_1 := n0_; have HO_2 := n1_; have HO322 := n2_; have HO327 := n3_; have HO332 := n4_; have HO336 := n5_; have HO340 := n6_; have BK323 := n7_; have HB := n8_; clear n0_ n1_ n2_ n3_ n4_ n5_ n6_ n7_ n8_; (try clear hb); (try clear hb2); (try clear hk); (try clear hi)) | (go_at_call 11; (with_reducible refine (tithebarnlaw13_works.calls  t343 _ ?side1 A124.out).mono ?_); (case side1 => exact VTabs.below HTabs.out tb); rintro e w153 ⟨rfl, hb⟩; have n0_ := Aside0.mk (Kd.R_below (by (with_reducible repeat (first | apply Kd.R_alloc | apply Kd.R_drewN | apply Kd.R_drew)); exact HO_1.out) hb); have n1_ := Aside0.mk (Kd.R_below (by (with_reducible repeat (first | apply Kd.R_alloc | apply Kd.R_drewN | apply Kd.R_drew)); exact HO_2.out) hb); have n2_ := Aside0.mk (Kd.R_below (by (with_reducible repeat (first | apply Kd.R_alloc | apply Kd.R_drewN | apply Kd.R_drew)); exact HO322.out) hb); have n3_ := Aside0.mk (Kd.R_below (by (with_reducible repeat (first | apply Kd.R_alloc | apply Kd.R_drewN | apply Kd.R_drew)); exact HO327.out) hb); have n4_ := Aside0.mk (Kd.R_below (by (with_reducible repeat (first | apply Kd.R_alloc | apply Kd.R_drewN | apply Kd.R_drew)); exact HO332.out) hb); have n5_ := Aside0.mk (Kd.R_below (by (with_reducible repeat (first | apply Kd.R_alloc | apply Kd.R_drewN | apply Kd.R_drew)); exact HO336.out) hb); have n6_ := Aside0.mk (Kd.R_below (by (with_reducible repeat (first | apply Kd.R_alloc | apply Kd.R_drewN | apply Kd.R_drew)); exact HO340.out) hb); have n7_ := Aside0.mk (blk_below (g := gb323) (o := .cells #[.slice Ao128 y320.length co128, .string (⟨#[]⟩ : ByteArray)] 24 (0, 0)) tk hb); have n8_ := Aside0.mk (below_step tb hb); clear HO_1; clear HO_2; clear HO322; clear HO327; clear HO332; clear HO336; clear HO340; clear BK323; clear HB; have HO_1 := n0_; have HO_2 := n1_; have HO322 := n2_; have HO327 := n3_; have HO332 := n4_; have HO336 := n5_; have HO340 := n6_; have BK323 := n7_; have HB := n8_; clear n0_ n1_ n2_ n3_ n4_ n5_ n6_ n7_ n8_; (try clear hb); (try clear hb2); (try clear hk); (try clear hi)))
        go_ret
        exact ⟨by first | rfl | (simp [errW_none, errW_some] <;> rfl) | (simp [*, errW_none, errW_some] <;> rfl), tb⟩
      rw [if_pos c3] at H
      have c3b0 : decide (x3_1 < (y280.length : Int)) = true := decide_eq_true c3
      clear c3
      by_cases c4 : 0 ≤ x3_1
      rotate_left
      · rw [if_neg c4] at H
        exact absurd H (by simp)
      rw [if_pos c4] at H
      have c4b0 : decide (0 ≤ x3_1) = true := decide_eq_true c4
      clear c4
      replace H := Option.bind_eq_some_iff.mp H
      obtain ⟨⟨t284, t287, t288⟩, A50, H⟩ := H
      replace H : ((tithebarnlaw13_VersionParse.f k1 (rdOf ByteArray.empty y280 x3_1)).bind fun t292 => (if t292 = true then ((tithebarnlaw13_VersionBack.f k1 (rdOf ByteArray.empty y280 x3_1) t284 t287).bind fun t294 => (if t294 = true then ((tithebarnlaw13_VersionPrint.f k1 t284 t287).bind fun t295 => (if t295 = true then ((tithebarnlaw13_VersionSort.f k1 (([(⟨#[51]⟩ : ByteArray), rdOf ByteArray.empty y280 x3_1, (⟨#[49]⟩ : ByteArray)] : List ByteArray))).bind fun t300 => (tithebarnlaw13_VersionKnown.j1 k1 y280 x2_1 x3_1 t288 (!t300) t284 t287)) else (tithebarnlaw13_VersionKnown.j1 k1 y280 x2_1 x3_1 t288 true t284 t287))) else (tithebarnlaw13_VersionKnown.j1 k1 y280 x2_1 x3_1 t288 true t284 t287))) else (tithebarnlaw13_VersionKnown.j1 k1 y280 x2_1 x3_1 t288 true t284 t287))) = some r := H
      have A5 := Aside0.mk A50
      clear A50
      have HC6 := Aside0.mk H
      clear H
      obtain ⟨Ao7, co7, eo7⟩ := Kd.R_slice HO_1.out
      subst eo7
      have p283 : 0 ≤ (x3_1 : Int) := of_decide_eq_true (by first | (with_reducible assumption) | assumption)
      have q283 : x3_1 < (y280.length : Int) := of_decide_eq_true (by first | (with_reducible assumption) | assumption)
      obtain ⟨ad283, e283, hx283_0⟩ := Kd.at_string (Kd.R_reads' HO_1.out).2.2 x3_1 p283 q283
      cases e283
      replace p283 := eq_true p283
      replace q283 := eq_true q283
      go_upto_region 8 with (first | ((with_reducible refine gate_callee (f := 15) rfl ?_); refine goesL_ (some 24) rfl rfl Tryz.func15 (by kernel_rfl) rfl #[.string (rdOf ByteArray.empty y280 x3_1)] rfl (by (try simp only [List.map_toArray, List.map_cons, List.map_nil]); first | done | rfl | (simp only [List.length_drop, List.length_take]; rfl)) ?_; (with_reducible refine (tithebarnref13_Parse.calls k1 (rdOf ByteArray.empty y280 x3_1) t284 t287 t288 _ A5.out).mono ?_); rintro e w8 ⟨v285, rfl, ho0, hb⟩; refine ⟨_, rfl, ?_⟩; have n0_ := Aside0.mk (Kd.R_below (by (with_reducible repeat (first | apply Kd.R_alloc | apply Kd.R_drewN | apply Kd.R_drew)); exact HO_1.out) hb); have n1_ := Aside0.mk (Kd.R_below (by (with_reducible repeat (first | apply Kd.R_alloc | apply Kd.R_drewN | apply Kd.R_drew)); exact HO_2.out) hb); have n2_ := Aside0.mk (Kd.R_lower ho0 (below_size tb)); have n3_ := Aside0.mk (below_step tb hb); clear HO_1; clear HO_2; clear HB; have HO_1 := n0_; have HO_2 := n1_; have HO286 := n2_; have HB := n3_; clear n0_ n1_ n2_ n3_; (try clear hb); (try clear hb2); (try clear hk); (try clear hi); (try clear ho0)) | ((with_reducible refine gate_dst (N := 4) rfl ?_); (try (refine gate_guard (by rfl) ?_; dsimp only)); refine box_event ?hg (N := 4) ?hd (cs := #[.slice none 0 0, .string (⟨#[]⟩ : ByteArray)]) (t := 30) ?hr ?_; (case hd => rfl); (case hg => rfl); (case hr => first | (go_simp; done) | (go_simp; rfl)); intro gb289 hg w9 hbox hb; have n0_ := Aside0.mk (Kd.R_below (by (with_reducible repeat (first | apply Kd.R_alloc | apply Kd.R_drewN | apply Kd.R_drew)); exact HO_1.out) hb); have n1_ := Aside0.mk (Kd.R_below (by (with_reducible repeat (first | apply Kd.R_alloc | apply Kd.R_drewN | apply Kd.R_drew)); exact HO_2.out) hb); have n2_ := Aside0.mk (Kd.R_below (by (with_reducible repeat (first | apply Kd.R_alloc | apply Kd.R_drewN | apply Kd.R_drew)); exact HO286.out) hb); have n3_ := Aside0.mk (below_step tb hb); have n4_ := Aside0.mk (hbox); have n5_ := Aside0.mk ((by rw [hg]; exact (below_size tb) : w.heap.size ≤ gb289)); have n6_ := Aside0.mk ((by rw [hg]; exact (below_size tb) : w.heap.size ≤ gb289)); clear HO_1; clear HO_2; clear HO286; clear HB; have HO_1 := n0_; have HO_2 := n1_; have HO286 := n2_; have HB := n3_; have BK289 := n4_; have GW289 := n5_; have GE289 := n6_; clear n0_ n1_ n2_ n3_ n4_ n5_ n6_; clear hb hbox hg; obtain ⟨Ao10, co10, eo10⟩ := Kd.R_slice HO286.out; subst eo10; have hcz11_0 : w9.cell? ⟨gb289, 0, none⟩ = some (.slice none 0 0) := (blk_cell BK289.out 0).trans rfl; have hcz11_1 : w9.cell? ⟨gb289, 1, none⟩ = some (.string (⟨#[]⟩ : ByteArray)) := (blk_cell BK289.out 1).trans rfl; have hfz11_0 := blk_frozen BK289.out 0; have hfz11_1 := blk_frozen BK289.out 1) | ((with_reducible refine gate_dst (N := 6) rfl ?_); (try (refine gate_guard (by rfl) ?_; dsimp only)); refine box_event ?hg (N := 6) ?hd (cs := #[.slice none 0 0, .string (⟨#[]⟩ : ByteArray)]) (t := 24) ?hr ?_; (case hd => rfl); (case hg => rfl); (case hr => first | (go_simp; done) | (go_simp; rfl)); intro gb290 hg w12 hbox hb; have n0_ := Aside0.mk (Kd.R_below (by (with_reducible repeat (first | apply Kd.R_alloc | apply Kd.R_drewN | apply Kd.R_drew)); exact (Kd.R_mono (Kd.R_far (p := ⟨gb289, 1, none⟩) (Kd.R_far (p := ⟨gb289, 0, none⟩) (Kd.R_types HO_1.out BK289.out (by decide)) (fun _ hk => hk.2) (.slice Ao10 t284.length co10)) (fun _ hk => hk.2) (.string t287)) (fun _ h_ => h_.1))) hb); have n1_ := Aside0.mk (Kd.R_below (by (with_reducible repeat (first | apply Kd.R_alloc | apply Kd.R_drewN | apply Kd.R_drew)); exact (Kd.R_mono (Kd.R_far (p := ⟨gb289, 1, none⟩) (Kd.R_far (p := ⟨gb289, 0, none⟩) (Kd.R_types HO_2.out BK289.out (by decide)) (fun _ hk => hk.2) (.slice Ao10 t284.length co10)) (fun _ hk => hk.2) (.string t287)) (fun _ h_ => h_.1))) hb); have n2_ := Aside0.mk (Kd.R_below (by (with_reducible repeat (first | apply Kd.R_alloc | apply Kd.R_drewN | apply Kd.R_drew)); exact (Kd.R_mono (Kd.R_far (p := ⟨gb289, 1, none⟩) (Kd.R_far (p := ⟨gb289, 0, none⟩) (Kd.R_types HO286.out BK289.out (by decide)) (fun _ hk => hk.2) (.slice Ao10 t284.length co10)) (fun _ hk => hk.2) (.string t287)) (fun _ h_ => h_.1))) hb); have n3_ := Aside0.mk (blk_below (g := gb289) (o := .cells #[.slice Ao10 t284.length co10, .string t287] 30 (0, 0)) (by (with_reducible repeat (first | refine blk_drewN ?_ _ | refine blk_drew ?_ | refine blk_alloc ?_ _)); refine blk_put (cs := #[.slice Ao10 t284.length co10, .string (⟨#[]⟩ : ByteArray)]) ?_ 1 _ rfl; (with_reducible repeat (first | refine blk_drewN ?_ _ | refine blk_drew ?_ | refine blk_alloc ?_ _)); refine blk_put (cs := #[.slice none 0 0, .string (⟨#[]⟩ : ByteArray)]) ?_ 0 _ rfl; (with_reducible repeat (first | refine blk_drewN ?_ _ | refine blk_drew ?_ | refine blk_alloc ?_ _)); exact BK289.out) hb); have n4_ := Aside0.mk (below_step tb hb); have n5_ := Aside0.mk (hbox); have n6_ := Aside0.mk ((by rw [hg]; exact (below_size tb) : w.heap.size ≤ gb290)); have n7_ := Aside0.mk ((by rw [hg]; exact (below_size tb) : w.heap.size ≤ gb290)); have n8_ := Aside0.mk ((by rw [hg]; exact Nat.ne_of_lt (blk_lt (g := gb289) (o := .cells #[.slice Ao10 t284.length co10, .string t287] 30 (0, 0)) (by (with_reducible repeat (first | refine blk_drewN ?_ _ | refine blk_drew ?_ | refine blk_alloc ?_ _)); refine blk_put (cs := #[.slice Ao10 t284.length co10, .string (⟨#[]⟩ : ByteArray)]) ?_ 1 _ rfl; (with_reducible repeat (first | refine blk_drewN ?_ _ | refine blk_drew ?_ | refine blk_alloc ?_ _)); refine blk_put (cs := #[.slice none 0 0, .string (⟨#[]⟩ : ByteArray)]) ?_ 0 _ rfl; (with_reducible repeat (first | refine blk_drewN ?_ _ | refine blk_drew ?_ | refine blk_alloc ?_ _)); exact BK289.out)) : gb289 ≠ gb290)); have n9_ := Aside0.mk ((by rw [hg]; exact Nat.ne_of_gt (blk_lt (g := gb289) (o := .cells #[.slice Ao10 t284.length co10, .string t287] 30 (0, 0)) (by (with_reducible repeat (first | refine blk_drewN ?_ _ | refine blk_drew ?_ | refine blk_alloc ?_ _)); refine blk_put (cs := #[.slice Ao10 t284.length co10, .string (⟨#[]⟩ : ByteArray)]) ?_ 1 _ rfl; (with_reducible repeat (first | refine blk_drewN ?_ _ | refine blk_drew ?_ | refine blk_alloc ?_ _)); refine blk_put (cs := #[.slice none 0 0, .string (⟨#[]⟩ : ByteArray)]) ?_ 0 _ rfl; (with_reducible repeat (first | refine blk_drewN ?_ _ | refine blk_drew ?_ | refine blk_alloc ?_ _)); exact BK289.out)) : gb290 ≠ gb289)); clear HO_1; clear HO_2; clear HO286; clear BK289; clear HB; have HO_1 := n0_; have HO_2 := n1_; have HO286 := n2_; have BK289 := n3_; have HB := n4_; have BK290 := n5_; have GW290 := n6_; have GE290 := n7_; have NB289_290 := n8_; have NB290_289 := n9_; clear n0_ n1_ n2_ n3_ n4_ n5_ n6_ n7_ n8_ n9_; clear hb hbox hg; have hnb13 := NB290_289.out; have hnc13 := NB289_290.out; have hcz14_0 : w12.cell? ⟨gb290, 0, none⟩ = some (.slice none 0 0) := (blk_cell BK290.out 0).trans rfl; have hcz14_1 : w12.cell? ⟨gb290, 1, none⟩ = some (.string (⟨#[]⟩ : ByteArray)) := (blk_cell BK290.out 1).trans rfl; have hfz14_0 := blk_frozen BK290.out 0; have hfz14_1 := blk_frozen BK290.out 1))
      (try simp only [Act.put, List.setIfInBounds_toArray, List.set_cons_zero, List.set_cons_succ])
      go_cut [60] (fun v60 wc => ∃ (kq : Nat) (x60_5 : Bool), v60 = .bool x60_5 ∧ Aside0 (tithebarnlaw13_VersionKnown.j1 kq y280 x2_1 x3_1 t288 x60_5 t284 t287 = some r) ∧ Aside0 (kq ≤ k1) ∧ Aside0 (Kd.R Kd.string 9 wc w.heap.size (fun k_ => some k_ ≠ (u2 : Value).ownBlock) (.slice (some ad283) y280.length co7) y280) ∧ Aside0 (Kd.R Kd.string 9 wc w.heap.size (fun k_ => some k_ ≠ ((.slice (some ad283) y280.length co7) : Value).ownBlock) u2 x2_1) ∧ Aside0 (Kd.R (Kd.int .i64) 3 wc w.heap.size (fun _ => True) (.slice Ao10 t284.length co10) t284) ∧ Aside0 (Kd.R (Kd.int .i64) 3 wc w.heap.size (fun _ => True) (.slice Ao10 t284.length co10) t284) ∧ Aside0 (wc.heap[gb289]? = some (.cells #[(.slice Ao10 t284.length co10), .string t287] 30 (0, 0))) ∧ Aside0 (wc.heap[gb290]? = some (.cells #[(.slice Ao10 t284.length co10), .string t287] 24 (0, 0))) ∧ Aside0 (Below w.heap.size w wc))
      case first =>
        have H := HC6.out
        clear HC6
        replace H := Option.bind_eq_some_iff.mp H
        obtain ⟨t292, A150, H⟩ := H
        replace H : (if t292 = true then ((tithebarnlaw13_VersionBack.f k1 (rdOf ByteArray.empty y280 x3_1) t284 t287).bind fun t294 => (if t294 = true then ((tithebarnlaw13_VersionPrint.f k1 t284 t287).bind fun t295 => (if t295 = true then ((tithebarnlaw13_VersionSort.f k1 (([(⟨#[51]⟩ : ByteArray), rdOf ByteArray.empty y280 x3_1, (⟨#[49]⟩ : ByteArray)] : List ByteArray))).bind fun t300 => (tithebarnlaw13_VersionKnown.j1 k1 y280 x2_1 x3_1 t288 (!t300) t284 t287)) else (tithebarnlaw13_VersionKnown.j1 k1 y280 x2_1 x3_1 t288 true t284 t287))) else (tithebarnlaw13_VersionKnown.j1 k1 y280 x2_1 x3_1 t288 true t284 t287))) else (tithebarnlaw13_VersionKnown.j1 k1 y280 x2_1 x3_1 t288 true t284 t287)) = some r := H
        have A15 := Aside0.mk A150
        clear A150
        by_cases c16 : t292 = true
        rotate_left
        · exact absurd (tithebarnlaw13_VersionParse_t A15.out) c16
        subst c16
        have H1 : ((tithebarnlaw13_VersionBack.f k1 (rdOf ByteArray.empty y280 x3_1) t284 t287).bind fun t294 => (if t294 = true then ((tithebarnlaw13_VersionPrint.f k1 t284 t287).bind fun t295 => (if t295 = true then ((tithebarnlaw13_VersionSort.f k1 (([(⟨#[51]⟩ : ByteArray), rdOf ByteArray.empty y280 x3_1, (⟨#[49]⟩ : ByteArray)] : List ByteArray))).bind fun t300 => (tithebarnlaw13_VersionKnown.j1 k1 y280 x2_1 x3_1 t288 (!t300) t284 t287)) else (tithebarnlaw13_VersionKnown.j1 k1 y280 x2_1 x3_1 t288 true t284 t287))) else (tithebarnlaw13_VersionKnown.j1 k1 y280 x2_1 x3_1 t288 true t284 t287))) = some r := by rw [if_pos rfl] at H; exact H
        clear H
        have H := H1
        clear H1
        replace H := Option.bind_eq_some_iff.mp H
        obtain ⟨t294, A170, H⟩ := H
        replace H : (if t294 = true then ((tithebarnlaw13_VersionPrint.f k1 t284 t287).bind fun t295 => (if t295 = true then ((tithebarnlaw13_VersionSort.f k1 (([(⟨#[51]⟩ : ByteArray), rdOf ByteArray.empty y280 x3_1, (⟨#[49]⟩ : ByteArray)] : List ByteArray))).bind fun t300 => (tithebarnlaw13_VersionKnown.j1 k1 y280 x2_1 x3_1 t288 (!t300) t284 t287)) else (tithebarnlaw13_VersionKnown.j1 k1 y280 x2_1 x3_1 t288 true t284 t287))) else (tithebarnlaw13_VersionKnown.j1 k1 y280 x2_1 x3_1 t288 true t284 t287)) = some r := H
        have A17 := Aside0.mk A170
        clear A170
        by_cases c18 : t294 = true
        rotate_left
        · exact absurd (tithebarnlaw13_VersionBack_t A17.out) c18
        subst c18
        have H1 : ((tithebarnlaw13_VersionPrint.f k1 t284 t287).bind fun t295 => (if t295 = true then ((tithebarnlaw13_VersionSort.f k1 (([(⟨#[51]⟩ : ByteArray), rdOf ByteArray.empty y280 x3_1, (⟨#[49]⟩ : ByteArray)] : List ByteArray))).bind fun t300 => (tithebarnlaw13_VersionKnown.j1 k1 y280 x2_1 x3_1 t288 (!t300) t284 t287)) else (tithebarnlaw13_VersionKnown.j1 k1 y280 x2_1 x3_1 t288 true t284 t287))) = some r := by rw [if_pos rfl] at H; exact H
        clear H
        have H := H1
        clear H1
        replace H := Option.bind_eq_some_iff.mp H
        obtain ⟨t295, A190, H⟩ := H
        replace H : (if t295 = true then ((tithebarnlaw13_VersionSort.f k1 (([(⟨#[51]⟩ : ByteArray), rdOf ByteArray.empty y280 x3_1, (⟨#[49]⟩ : ByteArray)] : List ByteArray))).bind fun t300 => (tithebarnlaw13_VersionKnown.j1 k1 y280 x2_1 x3_1 t288 (!t300) t284 t287)) else (tithebarnlaw13_VersionKnown.j1 k1 y280 x2_1 x3_1 t288 true t284 t287)) = some r := H
        have A19 := Aside0.mk A190
        clear A190
        by_cases c20 : t295 = true
        rotate_left
        · exact absurd (tithebarnlaw13_VersionPrint_t A19.out) c20
        subst c20
        have H1 : ((tithebarnlaw13_VersionSort.f k1 (([(⟨#[51]⟩ : ByteArray), rdOf ByteArray.empty y280 x3_1, (⟨#[49]⟩ : ByteArray)] : List ByteArray))).bind fun t300 => (tithebarnlaw13_VersionKnown.j1 k1 y280 x2_1 x3_1 t288 (!t300) t284 t287)) = some r := by rw [if_pos rfl] at H; exact H
        clear H
        have H := H1
        clear H1
        obtain ⟨y297, hy297⟩ : ∃ y_ : List ByteArray, y_ = (([(⟨#[51]⟩ : ByteArray), rdOf ByteArray.empty y280 x3_1, (⟨#[49]⟩ : ByteArray)] : List ByteArray)) := ⟨_, rfl⟩
        replace H : ((tithebarnlaw13_VersionSort.f k1 y297).bind fun t300 => (tithebarnlaw13_VersionKnown.j1 k1 y280 x2_1 x3_1 t288 (!t300) t284 t287)) = some r := by first | (rw [hy297]; with_reducible exact H) | (have H2_ := (Option.bind_some _ _).symm.trans H; rw [hy297]; with_reducible exact H2_) | (have H2_ := (Option.bind_some _ _).symm.trans H; with_reducible exact H2_) | with_reducible exact H | (rw [hy297]; exact H) | exact H
        have Ny297 := Aside0.mk hy297
        clear hy297
        replace H := Option.bind_eq_some_iff.mp H
        obtain ⟨t300, A210, H⟩ := H
        replace H : (tithebarnlaw13_VersionKnown.j1 k1 y280 x2_1 x3_1 t288 (!t300) t284 t287) = some r := H
        have A21 := Aside0.mk A210
        clear A210
        have H' := Aside0.mk H
        clear H
        try go_wp2
        have n0_ : Aside0 (Kd.R Kd.string 9 ((w12.setCell ⟨gb290, 0, none⟩ (.slice Ao10 t284.length co10)).setCell ⟨gb290, 1, none⟩ (.string t287)) w.heap.size (fun k_ => some k_ ≠ (u2 : Value).ownBlock) (.slice (some ad283) y280.length co7) y280) := ⟨by (with_reducible repeat (first | apply Kd.R_alloc | apply Kd.R_drewN | apply Kd.R_drew)); exact Kd.R_mono (Kd.R_far (p := ⟨gb290, 1, none⟩) (Kd.R_far (p := ⟨gb290, 0, none⟩) (Kd.R_types HO_1.out BK290.out (by decide)) (fun _ hk => hk.2) (.slice Ao10 t284.length co10)) (fun _ hk => hk.2) (.string t287)) (fun _ hk => hk.1)⟩
        have n1_ : Aside0 (Kd.R Kd.string 9 ((w12.setCell ⟨gb290, 0, none⟩ (.slice Ao10 t284.length co10)).setCell ⟨gb290, 1, none⟩ (.string t287)) w.heap.size (fun k_ => some k_ ≠ (.slice (some ad283) y280.length co7 : Value).ownBlock) u2 x2_1) := ⟨by (with_reducible repeat (first | apply Kd.R_alloc | apply Kd.R_drewN | apply Kd.R_drew)); exact Kd.R_mono (Kd.R_far (p := ⟨gb290, 1, none⟩) (Kd.R_far (p := ⟨gb290, 0, none⟩) (Kd.R_types HO_2.out BK290.out (by decide)) (fun _ hk => hk.2) (.slice Ao10 t284.length co10)) (fun _ hk => hk.2) (.string t287)) (fun _ hk => hk.1)⟩
        have n2_ : Aside0 (Kd.R (Kd.int .i64) 3 ((w12.setCell ⟨gb290, 0, none⟩ (.slice Ao10 t284.length co10)).setCell ⟨gb290, 1, none⟩ (.string t287)) w.heap.size (fun _ => True) (.slice Ao10 t284.length co10) t284) := ⟨by (with_reducible repeat (first | apply Kd.R_alloc | apply Kd.R_drewN | apply Kd.R_drew)); exact Kd.R_mono (Kd.R_far (p := ⟨gb290, 1, none⟩) (Kd.R_far (p := ⟨gb290, 0, none⟩) (Kd.R_types HO286.out BK290.out (by decide)) (fun _ hk => hk.2) (.slice Ao10 t284.length co10)) (fun _ hk => hk.2) (.string t287)) (fun _ hk => trivial)⟩
        have n3_ : Aside0 (((w12.setCell ⟨gb290, 0, none⟩ (.slice Ao10 t284.length co10)).setCell ⟨gb290, 1, none⟩ (.string t287)).heap[gb289]? = some (.cells #[.slice Ao10 t284.length co10, .string t287] 30 (0, 0))) := ⟨by (with_reducible repeat (first | refine blk_drewN ?_ _ | refine blk_drew ?_ | refine blk_alloc ?_ _)); refine blk_far ?_ NB289_290.out _; (with_reducible repeat (first | refine blk_drewN ?_ _ | refine blk_drew ?_ | refine blk_alloc ?_ _)); refine blk_far ?_ NB289_290.out _; (with_reducible repeat (first | refine blk_drewN ?_ _ | refine blk_drew ?_ | refine blk_alloc ?_ _)); exact BK289.out⟩
        have n4_ : Aside0 (((w12.setCell ⟨gb290, 0, none⟩ (.slice Ao10 t284.length co10)).setCell ⟨gb290, 1, none⟩ (.string t287)).heap[gb290]? = some (.cells #[.slice Ao10 t284.length co10, .string t287] 24 (0, 0))) := ⟨by (with_reducible repeat (first | refine blk_drewN ?_ _ | refine blk_drew ?_ | refine blk_alloc ?_ _)); refine blk_put (cs := #[.slice Ao10 t284.length co10, .string (⟨#[]⟩ : ByteArray)]) ?_ 1 _ rfl; (with_reducible repeat (first | refine blk_drewN ?_ _ | refine blk_drew ?_ | refine blk_alloc ?_ _)); refine blk_put (cs := #[.slice none 0 0, .string (⟨#[]⟩ : ByteArray)]) ?_ 0 _ rfl; (with_reducible repeat (first | refine blk_drewN ?_ _ | refine blk_drew ?_ | refine blk_alloc ?_ _)); exact BK290.out⟩
        have n5_ : Aside0 (Below w.heap.size w ((w12.setCell ⟨gb290, 0, none⟩ (.slice Ao10 t284.length co10)).setCell ⟨gb290, 1, none⟩ (.string t287))) := ⟨tb⟩
        (try clear HO_1)
        (try clear HO_2)
        (try clear HO286)
        (try clear BK289)
        (try clear BK290)
        (try clear HB)
        generalize ((w12.setCell ⟨gb290, 0, none⟩ (.slice Ao10 t284.length co10)).setCell ⟨gb290, 1, none⟩ (.string t287)) = w22 at n0_ n1_ n2_ n3_ n4_ n5_ ⊢
        have HO_1 := n0_
        have HO_2 := n1_
        have HO286 := n2_
        have BK289 := n3_
        have BK290 := n4_
        have HB := n5_
        clear n0_ n1_ n2_ n3_ n4_ n5_
        have n0_ := Aside0.mk (Kd.R_drew HO_1.out)
        have n1_ := Aside0.mk (Kd.R_drew HO_2.out)
        have n2_ := Aside0.mk (Kd.R_drew HO286.out)
        have n3_ := Aside0.mk (blk_drew BK289.out)
        have n4_ := Aside0.mk (blk_drew BK290.out)
        have n5_ := Aside0.mk (below_drew1 HB.out)
        clear HO_1
        clear HO_2
        clear HO286
        clear BK289
        clear BK290
        clear HB
        have HO_1 := n0_
        have HO_2 := n1_
        have HO286 := n2_
        have BK289 := n3_
        have BK290 := n4_
        have HB := n5_
        clear n0_ n1_ n2_ n3_ n4_ n5_
        have p291 : 0 ≤ (x3_1 : Int) := of_decide_eq_true (by first | (with_reducible assumption) | assumption)
        have q291 : x3_1 < (y280.length : Int) := of_decide_eq_true (by first | (with_reducible assumption) | assumption)
        obtain ⟨ad291, e291, hx291_0⟩ := Kd.at_string (Kd.R_reads' HO_1.out).2.2 x3_1 p291 q291
        obtain rfl : ad283 = ad291 := (by injection e291)
        replace p291 := eq_true p291
        replace q291 := eq_true q291
        have p293 : 0 ≤ (x3_1 : Int) := of_decide_eq_true (by first | (with_reducible assumption) | assumption)
        have q293 : x3_1 < (y280.length : Int) := of_decide_eq_true (by first | (with_reducible assumption) | assumption)
        obtain ⟨ad293, e293, hx293_0⟩ := Kd.at_string (Kd.R_reads' HO_1.out).2.2 x3_1 p293 q293
        obtain rfl : ad283 = ad293 := (by injection e293)
        replace p293 := eq_true p293
        replace q293 := eq_true q293
        have p296 : 0 ≤ (x3_1 : Int) := of_decide_eq_true (by first | (with_reducible assumption) | assumption)
        have q296 : x3_1 < (y280.length : Int) := of_decide_eq_true (by first | (with_reducible assumption) | assumption)
        obtain ⟨ad296, e296, hx296_0⟩ := Kd.at_string (Kd.R_reads' HO_1.out).2.2 x3_1 p296 q296
        obtain rfl : ad283 = ad296 := (by injection e296)
        replace p296 := eq_true p296
        replace q296 := eq_true q296
        refine start_ (n := 29) (S := fun w' => w'.cell? ⟨gb290, 0, none⟩ = some (.slice Ao10 t284.length co10) ∧ w'.cell? ⟨gb290, 1, none⟩ = some (.string t287) ∧ w'.cell? (ad283.add (x3_1).toNat) = some (.string (rdOf ByteArray.empty y280 x3_1)) ∧ w'.cell? (ad283.add (x3_1).toNat) = some (.string (rdOf ByteArray.empty y280 x3_1)) ∧ w'.cell? (ad283.add (x3_1).toNat) = some (.string (rdOf ByteArray.empty y280 x3_1))) (ds := []) #[false, false, false, false, false, false, false, false, false, false, false, false, false, false, false, false, false, false, false, false, false, false, false, false, false, false, false, false, false] (by kernel_rfl) rfl rfl ⟨(blk_cell BK290.out 0).trans rfl, (blk_cell BK290.out 1).trans rfl, hx291_0, hx293_0, hx296_0⟩ (fun hHeld => ?_); refine with_tabW tithebarnlaw13_VersionKnown.tab8 tithebarnlaw13_VersionKnown.bits8 (fun HT_ HW_ => ?_)
        generalize w22.drew = w23 at HO_1 HO_2 HO286 BK289 BK290 HB hx291_0 hx293_0 hx296_0 hHeld ⊢
        refine pure_ (i := 0) (N := some 32) (v := ?_) (a' := ?_) #[true, false, false, false, false, false, false, false, false, false, false, false, false, false, false, false, false, false, false, false, false, false, false, false, false, false, false, false, false] rfl rfl (any_of HT_.out (by kernel_rfl)) (fun _ _ _ h => h) (Or.inl ⟨by rfl, ?_⟩) ?_ ?_
        rotate_left
        · intro w'
          go_simp
          with_reducible rfl
        rotate_left
        · simp only [Act.put, List.setIfInBounds_toArray, List.set_cons_zero, List.set_cons_succ, i64_w, i32_w]
          rfl
        refine pure_ (i := 1) (N := some 33) (v := ?_) (a' := ?_) #[true, true, false, false, false, false, false, false, false, false, false, false, false, false, false, false, false, false, false, false, false, false, false, false, false, false, false, false, false] rfl rfl (any_of HT_.out (by kernel_rfl)) (fun _ _ _ h => h) (Or.inl ⟨by rfl, ?_⟩) ?_ ?_
        rotate_left
        · intro w'
          go_simp
          with_reducible rfl
        rotate_left
        · simp only [Act.put, List.setIfInBounds_toArray, List.set_cons_zero, List.set_cons_succ, i64_w, i32_w]
          rfl
        refine pure_ (i := 2) (N := some 34) (v := ?_) (a' := ?_) #[true, true, true, false, false, false, false, false, false, false, false, false, false, false, false, false, false, false, false, false, false, false, false, false, false, false, false, false, false] rfl rfl (any_of HT_.out (by kernel_rfl)) (fun _ _ _ h => h) (Or.inl ⟨by rfl, ?_⟩) ?_ ?_
        rotate_left
        · intro w'
          go_simp
          with_reducible rfl
        rotate_left
        · simp only [Act.put, List.setIfInBounds_toArray, List.set_cons_zero, List.set_cons_succ, i64_w, i32_w]
          rfl
        refine take_ (i := 3) (N := some 35) (v := ?_) (a' := ?_) #[true, true, true, true, false, false, false, false, false, false, false, false, false, false, false, false, false, false, false, false, false, false, false, false, false, false, false, false, false] rfl rfl (take_ofW HT_.out HW_.out (by kernel_rfl)) (fun _ _ _ h => h) (Or.inl ⟨by rfl, ?_⟩) hHeld ?_ ?_
        rotate_left
        · rintro w' ⟨s0, s1, s2, s3, s4⟩
          go_simp
          with_reducible rfl
        rotate_left
        · simp only [Act.put, List.setIfInBounds_toArray, List.set_cons_zero, List.set_cons_succ, i64_w, i32_w]
          rfl
        refine one_ (i := 4) (N := some 36) #[true, true, true, true, true, false, false, false, false, false, false, false, false, false, false, false, false, false, false, false, false, false, false, false, false, false, false, false, false] rfl rfl (one_of HT_.out (by kernel_rfl)) (by decide) (fun K hK => ?_)
        refine goes_ Tryz.func16 (by kernel_rfl) rfl #[.string (rdOf ByteArray.empty y280 x3_1)] (by rfl) rfl rfl (by (try simp only [List.map_toArray, List.map_cons, List.map_nil]); first | done | rfl | (simp only [List.length_drop, List.length_take]; rfl)) ?_
        with_reducible refine (tithebarnlaw13_VersionParse.calls k1 (rdOf ByteArray.empty y280 x3_1) true _ ?side1 A15.out (tithebarnlaw13_VersionParse_t A15.out)).mono ?_
        (case side1 => exact VTabs.below HTabs.out tb)
        rintro e w24 ⟨rfl, hb⟩
        have HS2_ := (hb.cell (World.block_lt_of_cell? _ _ (hHeld.2.2.1))).trans (hHeld.2.2.1)
        have HS3_ := (hb.cell (World.block_lt_of_cell? _ _ (hHeld.2.2.2.1))).trans (hHeld.2.2.2.1)
        have HS4_ := (hb.cell (World.block_lt_of_cell? _ _ (hHeld.2.2.2.2))).trans (hHeld.2.2.2.2)
        refine ⟨_, rfl, ?_⟩
        have n0_ := Aside0.mk (Kd.R_below (by (with_reducible repeat (first | apply Kd.R_alloc | apply Kd.R_drewN | apply Kd.R_drew)); exact HO_1.out) hb)
        have n1_ := Aside0.mk (Kd.R_below (by (with_reducible repeat (first | apply Kd.R_alloc | apply Kd.R_drewN | apply Kd.R_drew)); exact HO_2.out) hb)
        have n2_ := Aside0.mk (Kd.R_below (by (with_reducible repeat (first | apply Kd.R_alloc | apply Kd.R_drewN | apply Kd.R_drew)); exact HO286.out) hb)
        have n3_ := Aside0.mk (blk_below (g := gb289) (o := .cells #[.slice Ao10 t284.length co10, .string t287] 30 (0, 0)) tk hb)
        have n4_ := Aside0.mk (blk_below (g := gb290) (o := .cells #[.slice Ao10 t284.length co10, .string t287] 24 (0, 0)) tk hb)
        have n5_ := Aside0.mk (below_step tb hb)
        clear HO_1
        clear HO_2
        clear HO286
        clear BK289
        clear BK290
        clear HB
        have HO_1 := n0_
        have HO_2 := n1_
        have HO286 := n2_
        have BK289 := n3_
        have BK290 := n4_
        have HB := n5_
        clear n0_ n1_ n2_ n3_ n4_ n5_
        (try clear hb)
        (try clear hb2)
        (try clear hk)
        (try clear hi)
        refine hK.out _ _ ⟨(blk_cell BK290.out 0).trans rfl, (blk_cell BK290.out 1).trans rfl, HS2_, HS3_, HS4_⟩ (fun hHeld => ?_)
        clear hK K
        refine norm_ (a' := ?_) ?_ ?_
        rotate_left
        · show Act.put _ (some 36) _ = _
          simp only [Act.put, List.setIfInBounds_toArray, List.set_cons_zero, List.set_cons_succ, i64_w, i32_w]
          rfl
        refine pure_ (i := 5) (N := some 37) (v := ?_) (a' := ?_) #[true, true, true, true, true, true, false, false, false, false, false, false, false, false, false, false, false, false, false, false, false, false, false, false, false, false, false, false, false] rfl rfl (any_of HT_.out (by kernel_rfl)) (fun _ _ _ h => h) (Or.inl ⟨by rfl, ?_⟩) ?_ ?_
        rotate_left
        · intro w'
          go_simp
          with_reducible rfl
        rotate_left
        · simp only [Act.put, List.setIfInBounds_toArray, List.set_cons_zero, List.set_cons_succ, i64_w, i32_w]
          rfl
        refine pure_ (i := 6) (N := some 38) (v := ?_) (a' := ?_) #[true, true, true, true, true, true, true, false, false, false, false, false, false, false, false, false, false, false, false, false, false, false, false, false, false, false, false, false, false] rfl rfl (any_of HT_.out (by kernel_rfl)) (fun _ _ _ h => h) (Or.inl ⟨by rfl, ?_⟩) ?_ ?_
        rotate_left
        · intro w'
          go_simp
          with_reducible rfl
        rotate_left
        · simp only [Act.put, List.setIfInBounds_toArray, List.set_cons_zero, List.set_cons_succ, i64_w, i32_w]
          rfl
        refine pure_ (i := 7) (N := some 39) (v := ?_) (a' := ?_) #[true, true, true, true, true, true, true, true, false, false, false, false, false, false, false, false, false, false, false, false, false, false, false, false, false, false, false, false, false] rfl rfl (any_of HT_.out (by kernel_rfl)) (fun _ _ _ h => h) (Or.inl ⟨by rfl, ?_⟩) ?_ ?_
        rotate_left
        · intro w'
          go_simp
          with_reducible rfl
        rotate_left
        · simp only [Act.put, List.setIfInBounds_toArray, List.set_cons_zero, List.set_cons_succ, i64_w, i32_w]
          rfl
        refine pure_ (i := 8) (N := some 40) (v := ?_) (a' := ?_) #[true, true, true, true, true, true, true, true, true, false, false, false, false, false, false, false, false, false, false, false, false, false, false, false, false, false, false, false, false] rfl rfl (any_of HT_.out (by kernel_rfl)) (fun _ _ _ h => h) (Or.inl ⟨by rfl, ?_⟩) ?_ ?_
        rotate_left
        · intro w'
          go_simp
          with_reducible rfl
        rotate_left
        · simp only [Act.put, List.setIfInBounds_toArray, List.set_cons_zero, List.set_cons_succ, i64_w, i32_w]
          rfl
        refine pure_ (i := 9) (N := some 41) (v := ?_) (a' := ?_) #[true, true, true, true, true, true, true, true, true, true, false, false, false, false, false, false, false, false, false, false, false, false, false, false, false, false, false, false, false] rfl rfl (any_of HT_.out (by kernel_rfl)) (fun _ _ _ h => h) (Or.inl ⟨by rfl, ?_⟩) ?_ ?_
        rotate_left
        · intro w'
          go_simp
          with_reducible rfl
        rotate_left
        · simp only [Act.put, List.setIfInBounds_toArray, List.set_cons_zero, List.set_cons_succ, i64_w, i32_w]
          rfl
        refine take_ (i := 10) (N := some 42) (v := ?_) (a' := ?_) #[true, true, true, true, true, true, true, true, true, true, true, false, false, false, false, false, false, false, false, false, false, false, false, false, false, false, false, false, false] rfl rfl (take_ofW HT_.out HW_.out (by kernel_rfl)) (fun _ _ _ h => h) (Or.inl ⟨by rfl, ?_⟩) hHeld ?_ ?_
        rotate_left
        · rintro w' ⟨s0, s1, s2, s3, s4⟩
          go_simp
          with_reducible rfl
        rotate_left
        · simp only [Act.put, List.setIfInBounds_toArray, List.set_cons_zero, List.set_cons_succ, i64_w, i32_w]
          rfl
        refine take_ (i := 11) (N := some 43) (v := ?_) (a' := ?_) #[true, true, true, true, true, true, true, true, true, true, true, true, false, false, false, false, false, false, false, false, false, false, false, false, false, false, false, false, false] rfl rfl (take_ofW HT_.out HW_.out (by kernel_rfl)) (fun _ _ _ h => h) (Or.inl ⟨by rfl, ?_⟩) hHeld ?_ ?_
        rotate_left
        · rintro w' ⟨s0, s1, s2, s3, s4⟩
          go_simp
          with_reducible rfl
        rotate_left
        · simp only [Act.put, List.setIfInBounds_toArray, List.set_cons_zero, List.set_cons_succ, i64_w, i32_w]
          rfl
        refine one_ (i := 12) (N := some 44) #[true, true, true, true, true, true, true, true, true, true, true, true, true, false, false, false, false, false, false, false, false, false, false, false, false, false, false, false, false] rfl rfl (one_of HT_.out (by kernel_rfl)) (by decide) (fun K hK => ?_)
        refine goes_ Tryz.func17 (by kernel_rfl) rfl #[.string (rdOf ByteArray.empty y280 x3_1), .agg #[.slice Ao10 t284.length co10, .string t287]] (by rfl) rfl rfl (by (try simp only [List.map_toArray, List.map_cons, List.map_nil]); first | done | rfl | (simp only [List.length_drop, List.length_take]; rfl)) ?_
        with_reducible refine (tithebarnlaw13_VersionBack.calls k1 (rdOf ByteArray.empty y280 x3_1) _ _ t284 t287 true _ ?side1 ?side2 ?side3 A17.out (tithebarnlaw13_VersionBack_t A17.out)).mono ?_
        (case side1 => repeat (first | exact (Kd.R_reads' HO286.out).2.2 | (with_reducible refine Kd.C_alloc ?_ _) | (with_reducible refine Kd.C_drewN ?_ _) | (with_reducible refine Kd.C_drew ?_)))
        (case side2 => exact (Kd.R_reads' HO286.out).2.1)
        (case side3 => exact VTabs.below HTabs.out tb)
        rintro e w25 ⟨rfl, hb⟩
        have HS2_ := (hb.cell (World.block_lt_of_cell? _ _ (hHeld.2.2.1))).trans (hHeld.2.2.1)
        have HS3_ := (hb.cell (World.block_lt_of_cell? _ _ (hHeld.2.2.2.1))).trans (hHeld.2.2.2.1)
        have HS4_ := (hb.cell (World.block_lt_of_cell? _ _ (hHeld.2.2.2.2))).trans (hHeld.2.2.2.2)
        refine ⟨_, rfl, ?_⟩
        have n0_ := Aside0.mk (Kd.R_below (by (with_reducible repeat (first | apply Kd.R_alloc | apply Kd.R_drewN | apply Kd.R_drew)); exact HO_1.out) hb)
        have n1_ := Aside0.mk (Kd.R_below (by (with_reducible repeat (first | apply Kd.R_alloc | apply Kd.R_drewN | apply Kd.R_drew)); exact HO_2.out) hb)
        have n2_ := Aside0.mk (Kd.R_below (by (with_reducible repeat (first | apply Kd.R_alloc | apply Kd.R_drewN | apply Kd.R_drew)); exact HO286.out) hb)
        have n3_ := Aside0.mk (blk_below (g := gb289) (o := .cells #[.slice Ao10 t284.length co10, .string t287] 30 (0, 0)) tk hb)
        have n4_ := Aside0.mk (blk_below (g := gb290) (o := .cells #[.slice Ao10 t284.length co10, .string t287] 24 (0, 0)) tk hb)
        have n5_ := Aside0.mk (below_step tb hb)
        clear HO_1
        clear HO_2
        clear HO286
        clear BK289
        clear BK290
        clear HB
        have HO_1 := n0_
        have HO_2 := n1_
        have HO286 := n2_
        have BK289 := n3_
        have BK290 := n4_
        have HB := n5_
        clear n0_ n1_ n2_ n3_ n4_ n5_
        (try clear hb)
        (try clear hb2)
        (try clear hk)
        (try clear hi)
        refine hK.out _ _ ⟨(blk_cell BK290.out 0).trans rfl, (blk_cell BK290.out 1).trans rfl, HS2_, HS3_, HS4_⟩ (fun hHeld => ?_)
        clear hK K
        refine norm_ (a' := ?_) ?_ ?_
        rotate_left
        · show Act.put _ (some 44) _ = _
          simp only [Act.put, List.setIfInBounds_toArray, List.set_cons_zero, List.set_cons_succ, i64_w, i32_w]
          rfl
        refine pure_ (i := 13) (N := some 45) (v := ?_) (a' := ?_) #[true, true, true, true, true, true, true, true, true, true, true, true, true, true, false, false, false, false, false, false, false, false, false, false, false, false, false, false, false] rfl rfl (any_of HT_.out (by kernel_rfl)) (fun _ _ _ h => h) (Or.inl ⟨by rfl, ?_⟩) ?_ ?_
        rotate_left
        · intro w'
          go_simp
          with_reducible rfl
        rotate_left
        · simp only [Act.put, List.setIfInBounds_toArray, List.set_cons_zero, List.set_cons_succ, i64_w, i32_w]
          rfl
        refine pure_ (i := 14) (N := some 46) (v := ?_) (a' := ?_) #[true, true, true, true, true, true, true, true, true, true, true, true, true, true, true, false, false, false, false, false, false, false, false, false, false, false, false, false, false] rfl rfl (any_of HT_.out (by kernel_rfl)) (fun _ _ _ h => h) (Or.inl ⟨by rfl, ?_⟩) ?_ ?_
        rotate_left
        · intro w'
          go_simp
          with_reducible rfl
        rotate_left
        · simp only [Act.put, List.setIfInBounds_toArray, List.set_cons_zero, List.set_cons_succ, i64_w, i32_w]
          rfl
        refine pure_ (i := 15) (N := some 47) (v := ?_) (a' := ?_) #[true, true, true, true, true, true, true, true, true, true, true, true, true, true, true, true, false, false, false, false, false, false, false, false, false, false, false, false, false] rfl rfl (any_of HT_.out (by kernel_rfl)) (fun _ _ _ h => h) (Or.inl ⟨by rfl, ?_⟩) ?_ ?_
        rotate_left
        · intro w'
          go_simp
          with_reducible rfl
        rotate_left
        · simp only [Act.put, List.setIfInBounds_toArray, List.set_cons_zero, List.set_cons_succ, i64_w, i32_w]
          rfl
        refine take_ (i := 16) (N := some 48) (v := ?_) (a' := ?_) #[true, true, true, true, true, true, true, true, true, true, true, true, true, true, true, true, true, false, false, false, false, false, false, false, false, false, false, false, false] rfl rfl (take_ofW HT_.out HW_.out (by kernel_rfl)) (fun _ _ _ h => h) (Or.inl ⟨by rfl, ?_⟩) hHeld ?_ ?_
        rotate_left
        · rintro w' ⟨s0, s1, s2, s3, s4⟩
          go_simp
          with_reducible rfl
        rotate_left
        · simp only [Act.put, List.setIfInBounds_toArray, List.set_cons_zero, List.set_cons_succ, i64_w, i32_w]
          rfl
        refine one_ (i := 17) (N := some 49) #[true, true, true, true, true, true, true, true, true, true, true, true, true, true, true, true, true, true, false, false, false, false, false, false, false, false, false, false, false] rfl rfl (one_of HT_.out (by kernel_rfl)) (by decide) (fun K hK => ?_)
        refine goes_ Tryz.func3 (by kernel_rfl) rfl #[.agg #[.slice Ao10 t284.length co10, .string t287]] (by rfl) rfl rfl (by (try simp only [List.map_toArray, List.map_cons, List.map_nil]); first | done | rfl | (simp only [List.length_drop, List.length_take]; rfl)) ?_
        with_reducible refine (tithebarnlaw13_VersionPrint.calls k1 _ _ t284 t287 true _ ?side1 ?side2 ?side3 A19.out (tithebarnlaw13_VersionPrint_t A19.out)).mono ?_
        (case side1 => repeat (first | exact (Kd.R_reads' HO286.out).2.2 | (with_reducible refine Kd.C_alloc ?_ _) | (with_reducible refine Kd.C_drewN ?_ _) | (with_reducible refine Kd.C_drew ?_)))
        (case side2 => exact (Kd.R_reads' HO286.out).2.1)
        (case side3 => exact VTabs.below HTabs.out tb)
        rintro e w26 ⟨rfl, hb⟩
        have HS2_ := (hb.cell (World.block_lt_of_cell? _ _ (hHeld.2.2.1))).trans (hHeld.2.2.1)
        have HS3_ := (hb.cell (World.block_lt_of_cell? _ _ (hHeld.2.2.2.1))).trans (hHeld.2.2.2.1)
        have HS4_ := (hb.cell (World.block_lt_of_cell? _ _ (hHeld.2.2.2.2))).trans (hHeld.2.2.2.2)
        refine ⟨_, rfl, ?_⟩
        have n0_ := Aside0.mk (Kd.R_below (by (with_reducible repeat (first | apply Kd.R_alloc | apply Kd.R_drewN | apply Kd.R_drew)); exact HO_1.out) hb)
        have n1_ := Aside0.mk (Kd.R_below (by (with_reducible repeat (first | apply Kd.R_alloc | apply Kd.R_drewN | apply Kd.R_drew)); exact HO_2.out) hb)
        have n2_ := Aside0.mk (Kd.R_below (by (with_reducible repeat (first | apply Kd.R_alloc | apply Kd.R_drewN | apply Kd.R_drew)); exact HO286.out) hb)
        have n3_ := Aside0.mk (blk_below (g := gb289) (o := .cells #[.slice Ao10 t284.length co10, .string t287] 30 (0, 0)) tk hb)
        have n4_ := Aside0.mk (blk_below (g := gb290) (o := .cells #[.slice Ao10 t284.length co10, .string t287] 24 (0, 0)) tk hb)
        have n5_ := Aside0.mk (below_step tb hb)
        clear HO_1
        clear HO_2
        clear HO286
        clear BK289
        clear BK290
        clear HB
        have HO_1 := n0_
        have HO_2 := n1_
        have HO286 := n2_
        have BK289 := n3_
        have BK290 := n4_
        have HB := n5_
        clear n0_ n1_ n2_ n3_ n4_ n5_
        (try clear hb)
        (try clear hb2)
        (try clear hk)
        (try clear hi)
        refine hK.out _ _ ⟨(blk_cell BK290.out 0).trans rfl, (blk_cell BK290.out 1).trans rfl, HS2_, HS3_, HS4_⟩ (fun hHeld => ?_)
        clear hK K
        refine norm_ (a' := ?_) ?_ ?_
        rotate_left
        · show Act.put _ (some 49) _ = _
          simp only [Act.put, List.setIfInBounds_toArray, List.set_cons_zero, List.set_cons_succ, i64_w, i32_w]
          rfl
        refine pure_ (i := 18) (N := some 50) (v := ?_) (a' := ?_) #[true, true, true, true, true, true, true, true, true, true, true, true, true, true, true, true, true, true, true, false, false, false, false, false, false, false, false, false, false] rfl rfl (any_of HT_.out (by kernel_rfl)) (fun _ _ _ h => h) (Or.inl ⟨by rfl, ?_⟩) ?_ ?_
        rotate_left
        · intro w'
          go_simp
          with_reducible rfl
        rotate_left
        · simp only [Act.put, List.setIfInBounds_toArray, List.set_cons_zero, List.set_cons_succ, i64_w, i32_w]
          rfl
        refine pure_ (i := 19) (N := some 51) (v := ?_) (a' := ?_) #[true, true, true, true, true, true, true, true, true, true, true, true, true, true, true, true, true, true, true, true, false, false, false, false, false, false, false, false, false] rfl rfl (any_of HT_.out (by kernel_rfl)) (fun _ _ _ h => h) (Or.inl ⟨by rfl, ?_⟩) ?_ ?_
        rotate_left
        · intro w'
          go_simp
          with_reducible rfl
        rotate_left
        · simp only [Act.put, List.setIfInBounds_toArray, List.set_cons_zero, List.set_cons_succ, i64_w, i32_w]
          rfl
        refine pure_ (i := 20) (N := some 52) (v := ?_) (a' := ?_) #[true, true, true, true, true, true, true, true, true, true, true, true, true, true, true, true, true, true, true, true, true, false, false, false, false, false, false, false, false] rfl rfl (any_of HT_.out (by kernel_rfl)) (fun _ _ _ h => h) (Or.inl ⟨by rfl, ?_⟩) ?_ ?_
        rotate_left
        · intro w'
          go_simp
          with_reducible rfl
        rotate_left
        · simp only [Act.put, List.setIfInBounds_toArray, List.set_cons_zero, List.set_cons_succ, i64_w, i32_w]
          rfl
        refine pure_ (i := 21) (N := some 53) (v := ?_) (a' := ?_) #[true, true, true, true, true, true, true, true, true, true, true, true, true, true, true, true, true, true, true, true, true, true, false, false, false, false, false, false, false] rfl rfl (any_of HT_.out (by kernel_rfl)) (fun _ _ _ h => h) (Or.inl ⟨by rfl, ?_⟩) ?_ ?_
        rotate_left
        · intro w'
          go_simp
          with_reducible rfl
        rotate_left
        · simp only [Act.put, List.setIfInBounds_toArray, List.set_cons_zero, List.set_cons_succ, i64_w, i32_w]
          rfl
        refine pure_ (i := 22) (N := some 54) (v := ?_) (a' := ?_) #[true, true, true, true, true, true, true, true, true, true, true, true, true, true, true, true, true, true, true, true, true, true, true, false, false, false, false, false, false] rfl rfl (any_of HT_.out (by kernel_rfl)) (fun _ _ _ h => h) (Or.inl ⟨by rfl, ?_⟩) ?_ ?_
        rotate_left
        · intro w'
          go_simp
          with_reducible rfl
        rotate_left
        · simp only [Act.put, List.setIfInBounds_toArray, List.set_cons_zero, List.set_cons_succ, i64_w, i32_w]
          rfl
        refine pure_ (i := 23) (N := some 55) (v := ?_) (a' := ?_) #[true, true, true, true, true, true, true, true, true, true, true, true, true, true, true, true, true, true, true, true, true, true, true, true, false, false, false, false, false] rfl rfl (any_of HT_.out (by kernel_rfl)) (fun _ _ _ h => h) (Or.inl ⟨by rfl, ?_⟩) ?_ ?_
        rotate_left
        · intro w'
          go_simp
          with_reducible rfl
        rotate_left
        · simp only [Act.put, List.setIfInBounds_toArray, List.set_cons_zero, List.set_cons_succ, i64_w, i32_w]
          rfl
        refine take_ (i := 24) (N := some 56) (v := ?_) (a' := ?_) #[true, true, true, true, true, true, true, true, true, true, true, true, true, true, true, true, true, true, true, true, true, true, true, true, true, false, false, false, false] rfl rfl (take_ofW HT_.out HW_.out (by kernel_rfl)) (fun _ _ _ h => h) (Or.inl ⟨by rfl, ?_⟩) hHeld ?_ ?_
        rotate_left
        · rintro w' ⟨s0, s1, s2, s3, s4⟩
          go_simp
          with_reducible rfl
        rotate_left
        · simp only [Act.put, List.setIfInBounds_toArray, List.set_cons_zero, List.set_cons_succ, i64_w, i32_w]
          rfl
        refine one_ (i := 25) (N := some 57) #[true, true, true, true, true, true, true, true, true, true, true, true, true, true, true, true, true, true, true, true, true, true, true, true, true, true, false, false, false] rfl rfl (one_of HT_.out (by kernel_rfl)) (by decide) (fun K hK => ?_)
        refine Kd.R_lit_step Kd.string _ 9 ?hg (N := 57) ?hd (xs := ([(⟨#[51]⟩ : ByteArray), rdOf ByteArray.empty y280 x3_1, (⟨#[49]⟩ : ByteArray)] : List ByteArray)) (inner := [.string (⟨#[51]⟩ : ByteArray), .string (rdOf ByteArray.empty y280 x3_1), .string (⟨#[49]⟩ : ByteArray)]) (ok := fun _ => True) (okp := fun _ => True) ?hr ?hp (fun _ hk => hk) trivial (Below.refl _ _) (Nat.le_refl _) (by simp) ?_; (case hd => rfl); (case hg => rfl); (case hr => first | (go_simp; done) | (go_simp; rfl)); (case hp => exact (Reps.one (show Kd.M Kd.string _ _ _ (⟨#[51]⟩ : ByteArray) [.string (⟨#[51]⟩ : ByteArray)] from rfl) (Reps.one (show Kd.M Kd.string _ _ _ (rdOf ByteArray.empty y280 x3_1) [.string (rdOf ByteArray.empty y280 x3_1)] from rfl) (Reps.one (show Kd.M Kd.string _ _ _ (⟨#[49]⟩ : ByteArray) [.string (⟨#[49]⟩ : ByteArray)] from rfl) (Reps.none _ _)))))
        intro v298 w27 ho28 hb hg_ hnew_
        have HS2_ := (hb.cell (World.block_lt_of_cell? _ _ (hHeld.2.2.1))).trans (hHeld.2.2.1)
        have HS3_ := (hb.cell (World.block_lt_of_cell? _ _ (hHeld.2.2.2.1))).trans (hHeld.2.2.2.1)
        have HS4_ := (hb.cell (World.block_lt_of_cell? _ _ (hHeld.2.2.2.2))).trans (hHeld.2.2.2.2)
        clear hg_ hnew_
        (first | rw [← Ny297.out] at ho28 | (simp only [Int.reduceToNat] at ho28; rw [← Ny297.out] at ho28))
        have n0_ := Aside0.mk (Kd.R_elder' (by (with_reducible repeat (first | apply Kd.R_alloc | apply Kd.R_drewN | apply Kd.R_drew)); exact HO_1.out) (Kd.R_base ho28) hb)
        have n1_ := Aside0.mk (Kd.R_elder' (by (with_reducible repeat (first | apply Kd.R_alloc | apply Kd.R_drewN | apply Kd.R_drew)); exact HO_2.out) (Kd.R_base ho28) hb)
        have n2_ := Aside0.mk (Kd.R_below (by (with_reducible repeat (first | apply Kd.R_alloc | apply Kd.R_drewN | apply Kd.R_drew)); exact HO286.out) hb)
        have n3_ := Aside0.mk (Kd.R_lower (Kd.R_new' (Kd.R_new' ho28 (Kd.R_lt (by (with_reducible repeat (first | apply Kd.R_alloc | apply Kd.R_drewN | apply Kd.R_drew)); exact HO_1.out))) (Kd.R_lt (by (with_reducible repeat (first | apply Kd.R_alloc | apply Kd.R_drewN | apply Kd.R_drew)); exact HO_2.out))) (below_size tb))
        have n4_ := Aside0.mk (blk_below (g := gb289) (o := .cells #[.slice Ao10 t284.length co10, .string t287] 30 (0, 0)) tk hb)
        have n5_ := Aside0.mk (blk_below (g := gb290) (o := .cells #[.slice Ao10 t284.length co10, .string t287] 24 (0, 0)) tk hb)
        have n6_ := Aside0.mk (below_step tb hb)
        clear HO_1
        clear HO_2
        clear HO286
        clear BK289
        clear BK290
        clear HB
        have HO_1 := n0_
        have HO_2 := n1_
        have HO286 := n2_
        have HO299 := n3_
        have BK289 := n4_
        have BK290 := n5_
        have HB := n6_
        clear n0_ n1_ n2_ n3_ n4_ n5_ n6_
        clear hb ho28
        obtain ⟨Ao29, co29, eo29⟩ := Kd.R_slice HO299.out
        (first | subst eo29 | (injection eo29 with f1_ f2_ f3_; have f4_ := f1_.symm; have f5_ := f3_.symm; clear f1_ f2_ f3_; subst f4_; subst f5_))
        refine hK.out _ _ ⟨(blk_cell BK290.out 0).trans rfl, (blk_cell BK290.out 1).trans rfl, HS2_, HS3_, HS4_⟩ (fun hHeld => ?_)
        clear hK K
        refine norm_ (a' := ?_) ?_ ?_
        rotate_left
        · show Act.put _ (some 57) _ = _
          simp only [Act.put, List.setIfInBounds_toArray, List.set_cons_zero, List.set_cons_succ, i64_w, i32_w]
          rfl
        refine one_ (i := 26) (N := some 58) #[true, true, true, true, true, true, true, true, true, true, true, true, true, true, true, true, true, true, true, true, true, true, true, true, true, true, true, false, false] rfl rfl (one_of HT_.out (by kernel_rfl)) (by decide) (fun K hK => ?_)
        refine goes_ Tryz.func18 (by kernel_rfl) rfl #[.slice Ao29 y297.length co29] (by rfl) rfl rfl (by (try simp only [List.map_toArray, List.map_cons, List.map_nil]); first | done | rfl | (simp only [List.length_drop, List.length_take]; rfl)) ?_
        with_reducible refine (tithebarnlaw13_VersionSort.calls k1 _ _ y297 t300 _ ?side1 ?side2 ?side3 A21.out (tithebarnlaw13_VersionSort_t A21.out)).mono ?_
        (case side1 => repeat (first | exact (Kd.R_reads' HO299.out).2.2 | (with_reducible refine Kd.C_alloc ?_ _) | (with_reducible refine Kd.C_drewN ?_ _) | (with_reducible refine Kd.C_drew ?_)))
        (case side2 => exact (Kd.R_reads' HO299.out).2.1)
        (case side3 => exact VTabs.below HTabs.out tb)
        rintro e w30 ⟨rfl, hb⟩
        have HS2_ := (hb.cell (World.block_lt_of_cell? _ _ (hHeld.2.2.1))).trans (hHeld.2.2.1)
        have HS3_ := (hb.cell (World.block_lt_of_cell? _ _ (hHeld.2.2.2.1))).trans (hHeld.2.2.2.1)
        have HS4_ := (hb.cell (World.block_lt_of_cell? _ _ (hHeld.2.2.2.2))).trans (hHeld.2.2.2.2)
        refine ⟨_, rfl, ?_⟩
        have n0_ := Aside0.mk (Kd.R_below (by (with_reducible repeat (first | apply Kd.R_alloc | apply Kd.R_drewN | apply Kd.R_drew)); exact HO_1.out) hb)
        have n1_ := Aside0.mk (Kd.R_below (by (with_reducible repeat (first | apply Kd.R_alloc | apply Kd.R_drewN | apply Kd.R_drew)); exact HO_2.out) hb)
        have n2_ := Aside0.mk (Kd.R_below (by (with_reducible repeat (first | apply Kd.R_alloc | apply Kd.R_drewN | apply Kd.R_drew)); exact HO286.out) hb)
        have n3_ := Aside0.mk (Kd.R_below (by (with_reducible repeat (first | apply Kd.R_alloc | apply Kd.R_drewN | apply Kd.R_drew)); exact HO299.out) hb)
        have n4_ := Aside0.mk (blk_below (g := gb289) (o := .cells #[.slice Ao10 t284.length co10, .string t287] 30 (0, 0)) tk hb)
        have n5_ := Aside0.mk (blk_below (g := gb290) (o := .cells #[.slice Ao10 t284.length co10, .string t287] 24 (0, 0)) tk hb)
        have n6_ := Aside0.mk (below_step tb hb)
        clear HO_1
        clear HO_2
        clear HO286
        clear HO299
        clear BK289
        clear BK290
        clear HB
        have HO_1 := n0_
        have HO_2 := n1_
        have HO286 := n2_
        have HO299 := n3_
        have BK289 := n4_
        have BK290 := n5_
        have HB := n6_
        clear n0_ n1_ n2_ n3_ n4_ n5_ n6_
        (try clear hb)
        (try clear hb2)
        (try clear hk)
        (try clear hi)
        refine hK.out _ _ ⟨(blk_cell BK290.out 0).trans rfl, (blk_cell BK290.out 1).trans rfl, HS2_, HS3_, HS4_⟩ (fun hHeld => ?_)
        clear hK K
        refine norm_ (a' := ?_) ?_ ?_
        rotate_left
        · show Act.put _ (some 58) _ = _
          simp only [Act.put, List.setIfInBounds_toArray, List.set_cons_zero, List.set_cons_succ, i64_w, i32_w]
          rfl
        refine pure_ (i := 27) (N := some 59) (v := ?_) (a' := ?_) #[true, true, true, true, true, true, true, true, true, true, true, true, true, true, true, true, true, true, true, true, true, true, true, true, true, true, true, true, false] rfl rfl (any_of HT_.out (by kernel_rfl)) (fun _ _ _ h => h) (Or.inl ⟨by rfl, ?_⟩) ?_ ?_
        rotate_left
        · intro w'
          go_simp
          with_reducible rfl
        rotate_left
        · simp only [Act.put, List.setIfInBounds_toArray, List.set_cons_zero, List.set_cons_succ, i64_w, i32_w]
          rfl
        refine pure_ (i := 28) (N := some 60) (v := ?_) (a' := ?_) #[true, true, true, true, true, true, true, true, true, true, true, true, true, true, true, true, true, true, true, true, true, true, true, true, true, true, true, true, true] rfl rfl (any_of HT_.out (by kernel_rfl)) (fun _ _ _ h => h) (Or.inl ⟨by rfl, ?_⟩) ?_ ?_
        rotate_left
        · intro w'
          go_simp
          with_reducible rfl
        rotate_left
        · simp only [Act.put, List.setIfInBounds_toArray, List.set_cons_zero, List.set_cons_succ, i64_w, i32_w]
          rfl
        refine done_ (done_of HT_.out (by kernel_rfl)) ?_
        try go_wp2
        go_meet
        case rel => exact ⟨_, (!t300), (by first | rfl | (simp; done) | (simp [*]; done)), H', ⟨by have := HK1.out; first | omega | exact Nat.le_refl _⟩, ⟨by (with_reducible repeat (first | apply Kd.R_alloc | apply Kd.R_drewN | apply Kd.R_drew)); exact Kd.R_mono HO_1.out (fun _ hk => hk.1)⟩, ⟨by (with_reducible repeat (first | apply Kd.R_alloc | apply Kd.R_drewN | apply Kd.R_drew)); exact Kd.R_mono HO_2.out (fun _ hk => hk.1)⟩, ⟨by (with_reducible repeat (first | apply Kd.R_alloc | apply Kd.R_drewN | apply Kd.R_drew)); exact HO286.out⟩, ⟨by (with_reducible repeat (first | apply Kd.R_alloc | apply Kd.R_drewN | apply Kd.R_drew)); exact HO286.out⟩, ⟨by (with_reducible repeat (first | refine blk_drewN ?_ _ | refine blk_drew ?_ | refine blk_alloc ?_ _)); exact BK289.out⟩, ⟨by (with_reducible repeat (first | refine blk_drewN ?_ _ | refine blk_drew ?_ | refine blk_alloc ?_ _)); exact BK290.out⟩, ⟨tb⟩⟩
      case rest =>
        clear HC6
        try clear c1
        try clear p2
        try clear q2
        try clear hx2
        try clear c16
        try clear c17
        try clear c18
        try clear p29
        try clear q29
        try clear hx29
        try clear hx291_0
        try clear hx293_0
        try clear p291
        try clear p293
        try clear q291
        try clear q293
        obtain ⟨kq, x60_5, rfl, HA, HJ5, HO_1, HO_2, HO_290000, HO_291000, BK289, BK290, HB⟩ := hcut
        cases kq with
        | zero => exact absurd HA.out (by simp [tithebarnlaw13_VersionKnown.j1])
        | succ kj5 =>
          have H := HA.out
          clear HA
          simp only [tithebarnlaw13_VersionKnown.j1] at H
          by_cases c43 : x60_5 = true
          · subst c43
            have H1 : (some false) = some r := by rw [if_pos rfl] at H; exact H
            clear H
            have H := H1
            clear H1
            obtain rfl := Option.some.inj H
            go_wp2
            go_ret
            exact ⟨by first | rfl | (simp [errW_none, errW_some] <;> rfl) | (simp [*, errW_none, errW_some] <;> rfl), tb⟩
          replace c43 := Bool.eq_false_iff.mpr c43
          subst c43
          have H1 : (if t288 = 0 then (if 0 ≤ x3_1 then (if x3_1 < (y280.length : Int) then (if x2_1.length < 8796093022208 then (tithebarnlaw13_VersionKnown.j2 kj5 y280 (x2_1 ++ [rdOf ByteArray.empty y280 x3_1]) x3_1 t284 t287) else (none)) else (none)) else (none)) else (tithebarnlaw13_VersionKnown.j2 kj5 y280 x2_1 x3_1 t284 t287)) = some r := by rw [if_neg (show ¬ (false = true) by decide)] at H; exact H
          clear H
          have H := H1
          clear H1
          have HC44 := Aside0.mk H
          clear H
          go_upto_if 62 with (fail)
          go_cut [2] (fun v2 wc => ∃ (kq : Nat) (x2_43 : List ByteArray), Aside0 (tithebarnlaw13_VersionKnown.j2 kq y280 x2_43 x3_1 t284 t287 = some r) ∧ Aside0 (kq ≤ kj5) ∧ Aside0 (Kd.R Kd.string 9 wc w.heap.size (fun k_ => some k_ ≠ (v2 : Value).ownBlock) (.slice (some ad283) y280.length co7) y280) ∧ Aside0 (Kd.R Kd.string 9 wc w.heap.size (fun k_ => some k_ ≠ ((.slice (some ad283) y280.length co7) : Value).ownBlock) v2 x2_43) ∧ Aside0 (Kd.R (Kd.int .i64) 3 wc w.heap.size (fun _ => True) (.slice Ao10 t284.length co10) t284) ∧ Aside0 (Kd.R (Kd.int .i64) 3 wc w.heap.size (fun _ => True) (.slice Ao10 t284.length co10) t284) ∧ Aside0 (wc.heap[gb289]? = some (.cells #[(.slice Ao10 t284.length co10), .string t287] 30 (0, 0))) ∧ Aside0 (wc.heap[gb290]? = some (.cells #[(.slice Ao10 t284.length co10), .string t287] 24 (0, 0))) ∧ Aside0 (Below w.heap.size w wc))
          case first =>
            have H := HC44.out
            clear HC44
            by_cases c45 : t288 = 0
            rotate_left
            · rw [if_neg c45] at H
              have c45b0 : (t288 == 0) = false := beq_eq_false_iff_ne.mpr c45
              have c45b1 : (t288 != 0) = true := bne_iff_ne.mpr c45
              (first | rw [c45b0] | (simp only [i64_w, i32_w]; rw [c45b0]) | skip)
              have H' := Aside0.mk H
              clear H
              go_wp2
              go_meet
              case rel => exact ⟨_, (x2_1), H', ⟨by have := HK1.out; have := HJ5.out; first | omega | exact Nat.le_refl _⟩, ⟨by (with_reducible repeat (first | apply Kd.R_alloc | apply Kd.R_drewN | apply Kd.R_drew)); exact HO_1.out⟩, ⟨by (with_reducible repeat (first | apply Kd.R_alloc | apply Kd.R_drewN | apply Kd.R_drew)); exact HO_2.out⟩, ⟨by (with_reducible repeat (first | apply Kd.R_alloc | apply Kd.R_drewN | apply Kd.R_drew)); exact HO_290000.out⟩, ⟨by (with_reducible repeat (first | apply Kd.R_alloc | apply Kd.R_drewN | apply Kd.R_drew)); exact HO_291000.out⟩, ⟨by (with_reducible repeat (first | refine blk_drewN ?_ _ | refine blk_drew ?_ | refine blk_alloc ?_ _)); exact BK289.out⟩, ⟨by (with_reducible repeat (first | refine blk_drewN ?_ _ | refine blk_drew ?_ | refine blk_alloc ?_ _)); exact BK290.out⟩, ⟨tb⟩⟩
            rw [if_pos c45] at H
            have c45b0 : (t288 == 0) = true := beq_iff_eq.mpr c45
            have c45b1 : (t288 != 0) = false := bne_eq_false_iff_eq.mpr c45
            clear c45
            (first | rw [c45b0] | (simp only [i64_w, i32_w]; rw [c45b0]) | skip)
            by_cases c46 : 0 ≤ x3_1
            rotate_left
            · rw [if_neg c46] at H
              exact absurd H (by simp)
            rw [if_pos c46] at H
            have c46b0 : decide (0 ≤ x3_1) = true := decide_eq_true c46
            clear c46
            by_cases c47 : x3_1 < (y280.length : Int)
            rotate_left
            · rw [if_neg c47] at H
              exact absurd H (by simp)
            rw [if_pos c47] at H
            have c47b0 : decide (x3_1 < (y280.length : Int)) = true := decide_eq_true c47
            clear c47
            by_cases c48 : x2_1.length < 8796093022208
            rotate_left
            · rw [if_neg c48] at H
              exact absurd H (by simp)
            rw [if_pos c48] at H
            have LMc48 := Aside0.mk c48
            clear c48
            obtain ⟨y302, hy302⟩ : ∃ y_ : List ByteArray, y_ = (x2_1 ++ [rdOf ByteArray.empty y280 x3_1]) := ⟨_, rfl⟩
            replace H : (tithebarnlaw13_VersionKnown.j2 kj5 y280 y302 x3_1 t284 t287) = some r := by first | (rw [hy302]; with_reducible exact H) | (have H2_ := (Option.bind_some _ _).symm.trans H; rw [hy302]; with_reducible exact H2_) | (have H2_ := (Option.bind_some _ _).symm.trans H; with_reducible exact H2_) | with_reducible exact H | (rw [hy302]; exact H) | exact H
            have Ny302 := Aside0.mk hy302
            clear hy302
            have H' := Aside0.mk H
            clear H
            have p301 : 0 ≤ (x3_1 : Int) := of_decide_eq_true (by first | (with_reducible assumption) | assumption)
            have q301 : x3_1 < (y280.length : Int) := of_decide_eq_true (by first | (with_reducible assumption) | assumption)
            obtain ⟨ad301, e301, hx301_0⟩ := Kd.at_string (Kd.R_reads' HO_1.out).2.2 x3_1 p301 q301
            obtain rfl : ad283 = ad301 := (by injection e301)
            replace p301 := eq_true p301
            replace q301 := eq_true q301
            go_wp2_with (first | ((with_reducible refine gate_builtin (b := .append) (xs := #[.tmp 63, .tmp 68]) rfl ?_); (try (refine gate_guard (by rfl) ?_; dsimp only)); at_builtin; refine Kd.R_append Kd.string (w0 := w) w.heap.size rfl (.tmp 63) (.tmp 68) 33 9 (.string ⟨#[]⟩) 16 rfl Tryz.underlying33 info9 rfl (by decide) (by omega) u2 x2_1 (rdOf ByteArray.empty y280 x3_1) [.string (rdOf ByteArray.empty y280 x3_1)] (fun k_ => some k_ ≠ (.slice (some ad283) y280.length co7 : Value).ownBlock) (fun _ => False) rfl rfl ?aP (fun _ hk => hk.elim) ?aF ?aO ?aB ?aS ?aL ?_; (case aP => exact rfl); (case aB => exact tb); (case aF => exact (fun k_ hk => Kd.fresh' (Kd.R_lt (by (with_reducible repeat (first | apply Kd.R_alloc | apply Kd.R_drewN | apply Kd.R_drew)); exact HO_1.out)) k_ hk)); (case aO => exact (by (with_reducible repeat (first | apply Kd.R_alloc | apply Kd.R_drewN | apply Kd.R_drew)); exact HO_2.out)); (case aS => exact (below_size tb)); (case aL => have := LMc48.out; omega); intro v303 w49 ho hb hg hat; rw [← Ny302.out] at ho; have n0_ := Aside0.mk (Kd.R_after (ok := (fun _ => True)) (by (with_reducible repeat (first | apply Kd.R_alloc | apply Kd.R_drewN | apply Kd.R_drew)); exact Kd.R_mono HO_1.out (fun _ hk => ⟨trivial, hk⟩)) hg hat); have n1_ := Aside0.mk (Kd.R_over' (by (with_reducible repeat (first | apply Kd.R_alloc | apply Kd.R_drewN | apply Kd.R_drew)); exact HO_290000.out) (Kd.R_typed (by (with_reducible repeat (first | apply Kd.R_alloc | apply Kd.R_drewN | apply Kd.R_drew)); exact HO_2.out)) (by decide) hg); have n2_ := Aside0.mk (Kd.R_over' (by (with_reducible repeat (first | apply Kd.R_alloc | apply Kd.R_drewN | apply Kd.R_drew)); exact HO_291000.out) (Kd.R_typed (by (with_reducible repeat (first | apply Kd.R_alloc | apply Kd.R_drewN | apply Kd.R_drew)); exact HO_2.out)) (by decide) hg); have n3_ := Aside0.mk (blk_grown (g := gb289) (o := .cells #[.slice Ao10 t284.length co10, .string t287] 30 (0, 0)) tk hg (Kd.R_ne HO_2.out BK289.out (by decide))); have n4_ := Aside0.mk (blk_grown (g := gb290) (o := .cells #[.slice Ao10 t284.length co10, .string t287] 24 (0, 0)) tk hg (Kd.R_ne HO_2.out BK290.out (by decide))); have n5_ := Aside0.mk (hb); have n6_ := Aside0.mk (ho); clear HO_1; clear HO_290000; clear HO_291000; clear BK289; clear BK290; clear HB; clear HO_2; have HO_1 := n0_; have HO_290000 := n1_; have HO_291000 := n2_; have BK289 := n3_; have BK290 := n4_; have HB := n5_; have HO304 := n6_; clear n0_ n1_ n2_ n3_ n4_ n5_ n6_; clear ho hb hg hat))
            go_meet
            case rel => exact ⟨_, (y302), H', ⟨by have := HK1.out; have := HJ5.out; first | omega | exact Nat.le_refl _⟩, ⟨by (with_reducible repeat (first | apply Kd.R_alloc | apply Kd.R_drewN | apply Kd.R_drew)); exact Kd.R_mono HO_1.out (fun _ hk => hk.2)⟩, ⟨by (with_reducible repeat (first | apply Kd.R_alloc | apply Kd.R_drewN | apply Kd.R_drew)); exact HO304.out⟩, ⟨by (with_reducible repeat (first | apply Kd.R_alloc | apply Kd.R_drewN | apply Kd.R_drew)); exact HO_290000.out⟩, ⟨by (with_reducible repeat (first | apply Kd.R_alloc | apply Kd.R_drewN | apply Kd.R_drew)); exact HO_291000.out⟩, ⟨by (with_reducible repeat (first | refine blk_drewN ?_ _ | refine blk_drew ?_ | refine blk_alloc ?_ _)); exact BK289.out⟩, ⟨by (with_reducible repeat (first | refine blk_drewN ?_ _ | refine blk_drew ?_ | refine blk_alloc ?_ _)); exact BK290.out⟩, ⟨tb⟩⟩
          case rest =>
            clear HC44
            try clear c1
            try clear p2
            try clear q2
            try clear hx2
            try clear p3
            try clear q3
            try clear hx3
            try clear c4
            try clear c16
            try clear c17
            try clear c18
            try clear p29
            try clear q29
            try clear hx29
            try clear p30
            try clear q30
            try clear hx30
            try clear c43
            try clear c45
            try clear c45b0
            try clear c45b1
            try clear c46
            try clear c46b0
            try clear c47
            try clear c47b0
            try clear c48
            try clear hx291_0
            try clear hx293_0
            try clear hx301_0
            try clear p2
            try clear p29
            try clear p291
            try clear p293
            try clear p301
            try clear q2
            try clear q29
            try clear q291
            try clear q293
            try clear q301
            obtain ⟨kq, x2_43, HA, HJ43, HO_1, HO_2, HO_290000, HO_291000, BK289, BK290, HB⟩ := hcut
            cases kq with
            | zero => exact absurd HA.out (by simp [tithebarnlaw13_VersionKnown.j2])
            | succ kj43 =>
              have H := HA.out
              clear HA
              simp only [tithebarnlaw13_VersionKnown.j2] at H
              have H' := Aside0.mk H
              clear H
              go_wp2
              go_loopg [7] kj43 (fun kq v7 w' => ∃ (x7_4 : Int), v7 = .int .i64 x7_4 ∧ Aside0 (tithebarnlaw13_VersionKnown.l1 kq y280 x2_43 x3_1 x7_4 t284 t287 = some r) ∧ Aside0 (kq ≤ kj43) ∧ Aside0 (Kd.R Kd.string 9 w' w.heap.size (fun k_ => some k_ ≠ (u2 : Value).ownBlock) (.slice (some ad283) y280.length co7) y280) ∧ Aside0 (Kd.R Kd.string 9 w' w.heap.size (fun k_ => some k_ ≠ ((.slice (some ad283) y280.length co7) : Value).ownBlock) u2 x2_43) ∧ Aside0 (Kd.R (Kd.int .i64) 3 w' w.heap.size (fun _ => True) (.slice Ao10 t284.length co10) t284) ∧ Aside0 (Kd.R (Kd.int .i64) 3 w' w.heap.size (fun _ => True) (.slice Ao10 t284.length co10) t284) ∧ Aside0 (w'.heap[gb289]? = some (.cells #[(.slice Ao10 t284.length co10), .string t287] 30 (0, 0))) ∧ Aside0 (w'.heap[gb290]? = some (.cells #[(.slice Ao10 t284.length co10), .string t287] 24 (0, 0))) ∧ Aside0 (Below w.heap.size w w'))
              case atStart => exact ⟨(0), (by first | rfl | (simp; done) | (simp [*]; done)), H', ⟨Nat.le_refl _⟩, ⟨by (with_reducible repeat (first | apply Kd.R_alloc | apply Kd.R_drewN | apply Kd.R_drew)); exact HO_1.out⟩, ⟨by (with_reducible repeat (first | apply Kd.R_alloc | apply Kd.R_drewN | apply Kd.R_drew)); exact HO_2.out⟩, ⟨by (with_reducible repeat (first | apply Kd.R_alloc | apply Kd.R_drewN | apply Kd.R_drew)); exact HO_290000.out⟩, ⟨by (with_reducible repeat (first | apply Kd.R_alloc | apply Kd.R_drewN | apply Kd.R_drew)); exact HO_291000.out⟩, ⟨by (with_reducible repeat (first | refine blk_drewN ?_ _ | refine blk_drew ?_ | refine blk_alloc ?_ _)); exact BK289.out⟩, ⟨by (with_reducible repeat (first | refine blk_drewN ?_ _ | refine blk_drew ?_ | refine blk_alloc ?_ _)); exact BK290.out⟩, ⟨tb⟩⟩
              case round =>
                clear H'
                try clear c1
                try clear p2
                try clear q2
                try clear hx2
                try clear p3
                try clear q3
                try clear hx3
                try clear c4
                try clear c16
                try clear c17
                try clear c18
                try clear p29
                try clear q29
                try clear hx29
                try clear p30
                try clear q30
                try clear hx30
                try clear c43
                try clear c45
                try clear c45b0
                try clear c45b1
                try clear c46
                try clear c46b0
                try clear c47
                try clear c47b0
                try clear c48
                try clear hx291_0
                try clear hx293_0
                try clear hx301_0
                try clear p2
                try clear p29
                try clear p291
                try clear p293
                try clear p3
                try clear p30
                try clear p301
                try clear q2
                try clear q29
                try clear q291
                try clear q293
                try clear q3
                try clear q30
                try clear q301
                obtain ⟨x7_4, rfl, HA, HK4, HO_1, HO_2, HO_290000, HO_291000, BK289, BK290, HB⟩ := hrel
                cases gk with
                | zero => exact absurd HA.out (by simp [tithebarnlaw13_VersionKnown.l1])
                | succ k4 =>
                  have H := HA.out
                  clear HA
                  simp only [tithebarnlaw13_VersionKnown.l1] at H
                  by_cases c50 : x7_4 < (y280.length : Int)
                  rotate_left
                  · rw [if_neg c50] at H
                    have c50b0 : decide (x7_4 < (y280.length : Int)) = false := decide_eq_false c50
                    clear c50
                    have H' := Aside0.mk H
                    clear H
                    go_wp2
                    go_roundg k4
                    case measure => have := HK1.out; have := HJ5.out; have := HJ43.out; have := HK4.out; omega
                    case rel => exact ⟨(x2_43), (wrap64 (x3_1 + 1)), (by first | rfl | (simp; done) | (simp [*]; done)), H', ⟨by have := HK1.out; have := HJ5.out; have := HJ43.out; have := HK4.out; omega⟩, ⟨by (with_reducible repeat (first | apply Kd.R_alloc | apply Kd.R_drewN | apply Kd.R_drew)); exact HO_1.out⟩, ⟨by (with_reducible repeat (first | apply Kd.R_alloc | apply Kd.R_drewN | apply Kd.R_drew)); exact HO_2.out⟩, ⟨tb⟩⟩
                  rw [if_pos c50] at H
                  have c50b0 : decide (x7_4 < (y280.length : Int)) = true := decide_eq_true c50
                  clear c50
                  by_cases c51 : 0 ≤ x7_4
                  rotate_left
                  · rw [if_neg c51] at H
                    exact absurd H (by simp)
                  rw [if_pos c51] at H
                  have c51b0 : decide (0 ≤ x7_4) = true := decide_eq_true c51
                  clear c51
                  replace H := Option.bind_eq_some_iff.mp H
                  obtain ⟨⟨t306, t309, t310⟩, A520, H⟩ := H
                  replace H : (if 0 ≤ x3_1 then (if x3_1 < (y280.length : Int) then ((tithebarnlaw13_VersionCompare.f k4 t284 t287 t306 t309 (rdOf ByteArray.empty y280 x3_1) (rdOf ByteArray.empty y280 x7_4)).bind fun t315 => (if t315 = true then ((tithebarnlaw13_VersionOrder.f k4 t284 t287 t306 t309 (([1, 2] : List Int)) (⟨#[]⟩ : ByteArray)).bind fun t319 => (if t319 = true then (tithebarnlaw13_VersionKnown.l1 k4 y280 x2_43 x3_1 (wrap64 (x7_4 + 1)) t284 t287) else (some false))) else (some false))) else (none)) else (none)) = some r := H
                  have A52 := Aside0.mk A520
                  clear A520
                  by_cases c53 : 0 ≤ x3_1
                  rotate_left
                  · rw [if_neg c53] at H
                    exact absurd H (by simp)
                  rw [if_pos c53] at H
                  have c53b0 : decide (0 ≤ x3_1) = true := decide_eq_true c53
                  clear c53
                  by_cases c54 : x3_1 < (y280.length : Int)
                  rotate_left
                  · rw [if_neg c54] at H
                    exact absurd H (by simp)
                  rw [if_pos c54] at H
                  have c54b0 : decide (x3_1 < (y280.length : Int)) = true := decide_eq_true c54
                  clear c54
                  replace H := Option.bind_eq_some_iff.mp H
                  obtain ⟨t315, A550, H⟩ := H
                  replace H : (if t315 = true then ((tithebarnlaw13_VersionOrder.f k4 t284 t287 t306 t309 (([1, 2] : List Int)) (⟨#[]⟩ : ByteArray)).bind fun t319 => (if t319 = true then (tithebarnlaw13_VersionKnown.l1 k4 y280 x2_43 x3_1 (wrap64 (x7_4 + 1)) t284 t287) else (some false))) else (some false)) = some r := H
                  have A55 := Aside0.mk A550
                  clear A550
                  by_cases c56 : t315 = true
                  rotate_left
                  · exact absurd (tithebarnlaw13_VersionCompare_t A55.out) c56
                  subst c56
                  have H1 : ((tithebarnlaw13_VersionOrder.f k4 t284 t287 t306 t309 (([1, 2] : List Int)) (⟨#[]⟩ : ByteArray)).bind fun t319 => (if t319 = true then (tithebarnlaw13_VersionKnown.l1 k4 y280 x2_43 x3_1 (wrap64 (x7_4 + 1)) t284 t287) else (some false))) = some r := by rw [if_pos rfl] at H; exact H
                  clear H
                  have H := H1
                  clear H1
                  obtain ⟨y316, hy316⟩ : ∃ y_ : List Int, y_ = (([1, 2] : List Int)) := ⟨_, rfl⟩
                  replace H : ((tithebarnlaw13_VersionOrder.f k4 t284 t287 t306 t309 y316 (⟨#[]⟩ : ByteArray)).bind fun t319 => (if t319 = true then (tithebarnlaw13_VersionKnown.l1 k4 y280 x2_43 x3_1 (wrap64 (x7_4 + 1)) t284 t287) else (some false))) = some r := by first | (rw [hy316]; with_reducible exact H) | (have H2_ := (Option.bind_some _ _).symm.trans H; rw [hy316]; with_reducible exact H2_) | (have H2_ := (Option.bind_some _ _).symm.trans H; with_reducible exact H2_) | with_reducible exact H | (rw [hy316]; exact H) | exact H
                  have Ny316 := Aside0.mk hy316
                  clear hy316
                  replace H := Option.bind_eq_some_iff.mp H
                  obtain ⟨t319, A570, H⟩ := H
                  replace H : (if t319 = true then (tithebarnlaw13_VersionKnown.l1 k4 y280 x2_43 x3_1 (wrap64 (x7_4 + 1)) t284 t287) else (some false)) = some r := H
                  have A57 := Aside0.mk A570
                  clear A570
                  by_cases c58 : t319 = true
                  rotate_left
                  · exact absurd (tithebarnlaw13_VersionOrder_t A57.out) c58
                  subst c58
                  have H1 : (tithebarnlaw13_VersionKnown.l1 k4 y280 x2_43 x3_1 (wrap64 (x7_4 + 1)) t284 t287) = some r := by rw [if_pos rfl] at H; exact H
                  clear H
                  have H := H1
                  clear H1
                  have H' := Aside0.mk H
                  clear H
                  have p305 : 0 ≤ (x7_4 : Int) := of_decide_eq_true (by first | (with_reducible assumption) | assumption)
                  have q305 : x7_4 < (y280.length : Int) := of_decide_eq_true (by first | (with_reducible assumption) | assumption)
                  obtain ⟨ad305, e305, hx305_0⟩ := Kd.at_string (Kd.R_reads' HO_1.out).2.2 x7_4 p305 q305
                  obtain rfl : ad283 = ad305 := (by injection e305)
                  replace p305 := eq_true p305
                  replace q305 := eq_true q305
                  try go_wp2_with (first | ((with_reducible refine gate_callee (f := 15) rfl ?_); refine goesL_ (some 81) rfl rfl Tryz.func15 (by kernel_rfl) rfl #[.string (rdOf ByteArray.empty y280 x7_4)] rfl (by (try simp only [List.map_toArray, List.map_cons, List.map_nil]); first | done | rfl | (simp only [List.length_drop, List.length_take]; rfl)) ?_; (with_reducible refine (tithebarnref13_Parse.calls k4 (rdOf ByteArray.empty y280 x7_4) t306 t309 t310 _ A52.out).mono ?_); rintro e w59 ⟨v307, rfl, ho0, hb⟩; refine ⟨_, rfl, ?_⟩; have n0_ := Aside0.mk (Kd.R_below (by (with_reducible repeat (first | apply Kd.R_alloc | apply Kd.R_drewN | apply Kd.R_drew)); exact HO_1.out) hb); have n1_ := Aside0.mk (Kd.R_below (by (with_reducible repeat (first | apply Kd.R_alloc | apply Kd.R_drewN | apply Kd.R_drew)); exact HO_2.out) hb); have n2_ := Aside0.mk (Kd.R_elder' (by (with_reducible repeat (first | apply Kd.R_alloc | apply Kd.R_drewN | apply Kd.R_drew)); exact HO_290000.out) (Kd.R_base ho0) hb); have n3_ := Aside0.mk (Kd.R_elder' (by (with_reducible repeat (first | apply Kd.R_alloc | apply Kd.R_drewN | apply Kd.R_drew)); exact HO_291000.out) (Kd.R_base ho0) hb); have n4_ := Aside0.mk (Kd.R_lower (Kd.R_new' (Kd.R_new' ho0 (Kd.R_lt (by (with_reducible repeat (first | apply Kd.R_alloc | apply Kd.R_drewN | apply Kd.R_drew)); exact HO_290000.out))) (Kd.R_lt (by (with_reducible repeat (first | apply Kd.R_alloc | apply Kd.R_drewN | apply Kd.R_drew)); exact HO_291000.out))) (below_size tb)); have n5_ := Aside0.mk (blk_below (g := gb289) (o := .cells #[.slice Ao10 t284.length co10, .string t287] 30 (0, 0)) tk hb); have n6_ := Aside0.mk (blk_below (g := gb290) (o := .cells #[.slice Ao10 t284.length co10, .string t287] 24 (0, 0)) tk hb); have n7_ := Aside0.mk (below_step tb hb); clear HO_1; clear HO_2; clear HO_290000; clear HO_291000; clear BK289; clear BK290; clear HB; have HO_1 := n0_; have HO_2 := n1_; have HO_290000 := n2_; have HO_291000 := n3_; have HO308 := n4_; have BK289 := n5_; have BK290 := n6_; have HB := n7_; clear n0_ n1_ n2_ n3_ n4_ n5_ n6_ n7_; (try clear hb); (try clear hb2); (try clear hk); (try clear hi); (try clear ho0)) | ((with_reducible refine gate_dst (N := 8) rfl ?_); (try (refine gate_guard (by rfl) ?_; dsimp only)); refine box_event ?hg (N := 8) ?hd (cs := #[.slice none 0 0, .string (⟨#[]⟩ : ByteArray)]) (t := 30) ?hr ?_; (case hd => rfl); (case hg => rfl); (case hr => first | (go_simp; done) | (go_simp; rfl)); intro gb311 hg w60 hbox hb; have n0_ := Aside0.mk (Kd.R_below (by (with_reducible repeat (first | apply Kd.R_alloc | apply Kd.R_drewN | apply Kd.R_drew)); exact HO_1.out) hb); have n1_ := Aside0.mk (Kd.R_below (by (with_reducible repeat (first | apply Kd.R_alloc | apply Kd.R_drewN | apply Kd.R_drew)); exact HO_2.out) hb); have n2_ := Aside0.mk (Kd.R_below (by (with_reducible repeat (first | apply Kd.R_alloc | apply Kd.R_drewN | apply Kd.R_drew)); exact HO_290000.out) hb); have n3_ := Aside0.mk (Kd.R_below (by (with_reducible repeat (first | apply Kd.R_alloc | apply Kd.R_drewN | apply Kd.R_drew)); exact HO_291000.out) hb); have n4_ := Aside0.mk (Kd.R_below (by (with_reducible repeat (first | apply Kd.R_alloc | apply Kd.R_drewN | apply Kd.R_drew)); exact HO308.out) hb); have n5_ := Aside0.mk (blk_below (g := gb289) (o := .cells #[.slice Ao10 t284.length co10, .string t287] 30 (0, 0)) tk hb); have n6_ := Aside0.mk (blk_below (g := gb290) (o := .cells #[.slice Ao10 t284.length co10, .string t287] 24 (0, 0)) tk hb); have n7_ := Aside0.mk (below_step tb hb); have n8_ := Aside0.mk (hbox); have n9_ := Aside0.mk ((by rw [hg]; exact (below_size tb) : w.heap.size ≤ gb311)); have n10_ := Aside0.mk ((by rw [hg]; exact (below_size tb) : w.heap.size ≤ gb311)); have n11_ := Aside0.mk ((by rw [hg]; exact Nat.ne_of_lt (blk_lt (g := gb289) (o := .cells #[.slice Ao10 t284.length co10, .string t287] 30 (0, 0)) tk) : gb289 ≠ gb311)); have n12_ := Aside0.mk ((by rw [hg]; exact Nat.ne_of_gt (blk_lt (g := gb289) (o := .cells #[.slice Ao10 t284.length co10, .string t287] 30 (0, 0)) tk) : gb311 ≠ gb289)); have n13_ := Aside0.mk ((by rw [hg]; exact Nat.ne_of_lt (blk_lt (g := gb290) (o := .cells #[.slice Ao10 t284.length co10, .string t287] 24 (0, 0)) tk) : gb290 ≠ gb311)); have n14_ := Aside0.mk ((by rw [hg]; exact Nat.ne_of_gt (blk_lt (g := gb290) (o := .cells #[.slice Ao10 t284.length co10, .string t287] 24 (0, 0)) tk) : gb311 ≠ gb290)); clear HO_1; clear HO_2; clear HO_290000; clear HO_291000; clear HO308; clear BK289; clear BK290; clear HB; have HO_1 := n0_; have HO_2 := n1_; have HO_290000 := n2_; have HO_291000 := n3_; have HO308 := n4_; have BK289 := n5_; have BK290 := n6_; have HB := n7_; have BK311 := n8_; have GW311 := n9_; have GE311 := n10_; have NB289_311 := n11_; have NB311_289 := n12_; have NB290_311 := n13_; have NB311_290 := n14_; clear n0_ n1_ n2_ n3_ n4_ n5_ n6_ n7_ n8_ n9_ n10_ n11_ n12_ n13_ n14_; clear hb hbox hg; obtain ⟨Ao61, co61, eo61⟩ := Kd.R_slice HO308.out; subst eo61; have hnb62 := NB311_289.out; have hnc62 := NB289_311.out; have hnb63 := NB311_290.out; have hnc63 := NB290_311.out; have hcz64_0 : w60.cell? ⟨gb311, 0, none⟩ = some (.slice none 0 0) := (blk_cell BK311.out 0).trans rfl; have hcz64_1 : w60.cell? ⟨gb311, 1, none⟩ = some (.string (⟨#[]⟩ : ByteArray)) := (blk_cell BK311.out 1).trans rfl; have hfz64_0 := blk_frozen BK311.out 0; have hfz64_1 := blk_frozen BK311.out 1) | ((with_reducible refine gate_dst (N := 10) rfl ?_); (try (refine gate_guard (by rfl) ?_; dsimp only)); refine box_event ?hg (N := 10) ?hd (cs := #[.slice none 0 0, .string (⟨#[]⟩ : ByteArray)]) (t := 24) ?hr ?_; (case hd => rfl); (case hg => rfl); (case hr => first | (go_simp; done) | (go_simp; rfl)); intro gb312 hg w65 hbox hb; have n0_ := Aside0.mk (Kd.R_below (by (with_reducible repeat (first | apply Kd.R_alloc | apply Kd.R_drewN | apply Kd.R_drew)); exact (Kd.R_mono (Kd.R_far (p := ⟨gb311, 1, none⟩) (Kd.R_far (p := ⟨gb311, 0, none⟩) (Kd.R_types HO_1.out BK311.out (by decide)) (fun _ hk => hk.2) (.slice Ao61 t306.length co61)) (fun _ hk => hk.2) (.string t309)) (fun _ h_ => h_.1))) hb); have n1_ := Aside0.mk (Kd.R_below (by (with_reducible repeat (first | apply Kd.R_alloc | apply Kd.R_drewN | apply Kd.R_drew)); exact (Kd.R_mono (Kd.R_far (p := ⟨gb311, 1, none⟩) (Kd.R_far (p := ⟨gb311, 0, none⟩) (Kd.R_types HO_2.out BK311.out (by decide)) (fun _ hk => hk.2) (.slice Ao61 t306.length co61)) (fun _ hk => hk.2) (.string t309)) (fun _ h_ => h_.1))) hb); have n2_ := Aside0.mk (Kd.R_below (by (with_reducible repeat (first | apply Kd.R_alloc | apply Kd.R_drewN | apply Kd.R_drew)); exact (Kd.R_mono (Kd.R_far (p := ⟨gb311, 1, none⟩) (Kd.R_far (p := ⟨gb311, 0, none⟩) (Kd.R_types HO_290000.out BK311.out (by decide)) (fun _ hk => hk.2) (.slice Ao61 t306.length co61)) (fun _ hk => hk.2) (.string t309)) (fun _ h_ => h_.1))) hb); have n3_ := Aside0.mk (Kd.R_below (by (with_reducible repeat (first | apply Kd.R_alloc | apply Kd.R_drewN | apply Kd.R_drew)); exact (Kd.R_mono (Kd.R_far (p := ⟨gb311, 1, none⟩) (Kd.R_far (p := ⟨gb311, 0, none⟩) (Kd.R_types HO_291000.out BK311.out (by decide)) (fun _ hk => hk.2) (.slice Ao61 t306.length co61)) (fun _ hk => hk.2) (.string t309)) (fun _ h_ => h_.1))) hb); have n4_ := Aside0.mk (Kd.R_below (by (with_reducible repeat (first | apply Kd.R_alloc | apply Kd.R_drewN | apply Kd.R_drew)); exact (Kd.R_mono (Kd.R_far (p := ⟨gb311, 1, none⟩) (Kd.R_far (p := ⟨gb311, 0, none⟩) (Kd.R_types HO308.out BK311.out (by decide)) (fun _ hk => hk.2) (.slice Ao61 t306.length co61)) (fun _ hk => hk.2) (.string t309)) (fun _ h_ => h_.1))) hb); have n5_ := Aside0.mk (blk_below (g := gb289) (o := .cells #[.slice Ao10 t284.length co10, .string t287] 30 (0, 0)) (by (with_reducible repeat (first | refine blk_drewN ?_ _ | refine blk_drew ?_ | refine blk_alloc ?_ _)); refine blk_far ?_ NB289_311.out _; (with_reducible repeat (first | refine blk_drewN ?_ _ | refine blk_drew ?_ | refine blk_alloc ?_ _)); refine blk_far ?_ NB289_311.out _; (with_reducible repeat (first | refine blk_drewN ?_ _ | refine blk_drew ?_ | refine blk_alloc ?_ _)); exact BK289.out) hb); have n6_ := Aside0.mk (blk_below (g := gb290) (o := .cells #[.slice Ao10 t284.length co10, .string t287] 24 (0, 0)) (by (with_reducible repeat (first | refine blk_drewN ?_ _ | refine blk_drew ?_ | refine blk_alloc ?_ _)); refine blk_far ?_ NB290_311.out _; (with_reducible repeat (first | refine blk_drewN ?_ _ | refine blk_drew ?_ | refine blk_alloc ?_ _)); refine blk_far ?_ NB290_311.out _; (with_reducible repeat (first | refine blk_drewN ?_ _ | refine blk_drew ?_ | refine blk_alloc ?_ _)); exact BK290.out) hb); have n7_ := Aside0.mk (blk_below (g := gb311) (o := .cells #[.slice Ao61 t306.length co61, .string t309] 30 (0, 0)) (by (with_reducible repeat (first | refine blk_drewN ?_ _ | refine blk_drew ?_ | refine blk_alloc ?_ _)); refine blk_put (cs := #[.slice Ao61 t306.length co61, .string (⟨#[]⟩ : ByteArray)]) ?_ 1 _ rfl; (with_reducible repeat (first | refine blk_drewN ?_ _ | refine blk_drew ?_ | refine blk_alloc ?_ _)); refine blk_put (cs := #[.slice none 0 0, .string (⟨#[]⟩ : ByteArray)]) ?_ 0 _ rfl; (with_reducible repeat (first | refine blk_drewN ?_ _ | refine blk_drew ?_ | refine blk_alloc ?_ _)); exact BK311.out) hb); have n8_ := Aside0.mk (below_step tb hb); have n9_ := Aside0.mk (hbox); have n10_ := Aside0.mk ((by rw [hg]; exact (below_size tb) : w.heap.size ≤ gb312)); have n11_ := Aside0.mk ((by rw [hg]; exact (below_size tb) : w.heap.size ≤ gb312)); have n12_ := Aside0.mk ((by rw [hg]; exact Nat.ne_of_lt (blk_lt (g := gb289) (o := .cells #[.slice Ao10 t284.length co10, .string t287] 30 (0, 0)) (by (with_reducible repeat (first | refine blk_drewN ?_ _ | refine blk_drew ?_ | refine blk_alloc ?_ _)); refine blk_far ?_ NB289_311.out _; (with_reducible repeat (first | refine blk_drewN ?_ _ | refine blk_drew ?_ | refine blk_alloc ?_ _)); refine blk_far ?_ NB289_311.out _; (with_reducible repeat (first | refine blk_drewN ?_ _ | refine blk_drew ?_ | refine blk_alloc ?_ _)); exact BK289.out)) : gb289 ≠ gb312)); have n13_ := Aside0.mk ((by rw [hg]; exact Nat.ne_of_gt (blk_lt (g := gb289) (o := .cells #[.slice Ao10 t284.length co10, .string t287] 30 (0, 0)) (by (with_reducible repeat (first | refine blk_drewN ?_ _ | refine blk_drew ?_ | refine blk_alloc ?_ _)); refine blk_far ?_ NB289_311.out _; (with_reducible repeat (first | refine blk_drewN ?_ _ | refine blk_drew ?_ | refine blk_alloc ?_ _)); refine blk_far ?_ NB289_311.out _; (with_reducible repeat (first | refine blk_drewN ?_ _ | refine blk_drew ?_ | refine blk_alloc ?_ _)); exact BK289.out)) : gb312 ≠ gb289)); have n14_ := Aside0.mk ((by rw [hg]; exact Nat.ne_of_lt (blk_lt (g := gb290) (o := .cells #[.slice Ao10 t284.length co10, .string t287] 24 (0, 0)) (by (with_reducible repeat (first | refine blk_drewN ?_ _ | refine blk_drew ?_ | refine blk_alloc ?_ _)); refine blk_far ?_ NB290_311.out _; (with_reducible repeat (first | refine blk_drewN ?_ _ | refine blk_drew ?_ | refine blk_alloc ?_ _)); refine blk_far ?_ NB290_311.out _; (with_reducible repeat (first | refine blk_drewN ?_ _ | refine blk_drew ?_ | refine blk_alloc ?_ _)); exact BK290.out)) : gb290 ≠ gb312)); have n15_ := Aside0.mk ((by rw [hg]; exact Nat.ne_of_gt (blk_lt (g := gb290) (o := .cells #[.slice Ao10 t284.length co10, .string t287] 24 (0, 0)) (by (with_reducible repeat (first | refine blk_drewN ?_ _ | refine blk_drew ?_ | refine blk_alloc ?_ _)); refine blk_far ?_ NB290_311.out _; (with_reducible repeat (first | refine blk_drewN ?_ _ | refine blk_drew ?_ | refine blk_alloc ?_ _)); refine blk_far ?_ NB290_311.out _; (with_reducible repeat (first | refine blk_drewN ?_ _ | refine blk_drew ?_ | refine blk_alloc ?_ _)); exact BK290.out)) : gb312 ≠ gb290)); have n16_ := Aside0.mk ((by rw [hg]; exact Nat.ne_of_lt (blk_lt (g := gb311) (o := .cells #[.slice Ao61 t306.length co61, .string t309] 30 (0, 0)) (by (with_reducible repeat (first | refine blk_drewN ?_ _ | refine blk_drew ?_ | refine blk_alloc ?_ _)); refine blk_put (cs := #[.slice Ao61 t306.length co61, .string (⟨#[]⟩ : ByteArray)]) ?_ 1 _ rfl; (with_reducible repeat (first | refine blk_drewN ?_ _ | refine blk_drew ?_ | refine blk_alloc ?_ _)); refine blk_put (cs := #[.slice none 0 0, .string (⟨#[]⟩ : ByteArray)]) ?_ 0 _ rfl; (with_reducible repeat (first | refine blk_drewN ?_ _ | refine blk_drew ?_ | refine blk_alloc ?_ _)); exact BK311.out)) : gb311 ≠ gb312)); have n17_ := Aside0.mk ((by rw [hg]; exact Nat.ne_of_gt (blk_lt (g := gb311) (o := .cells #[.slice Ao61 t306.length co61, .string t309] 30 (0, 0)) (by (with_reducible repeat (first | refine blk_drewN ?_ _ | refine blk_drew ?_ | refine blk_alloc ?_ _)); refine blk_put (cs := #[.slice Ao61 t306.length co61, .string (⟨#[]⟩ : ByteArray)]) ?_ 1 _ rfl; (with_reducible repeat (first | refine blk_drewN ?_ _ | refine blk_drew ?_ | refine blk_alloc ?_ _)); refine blk_put (cs := #[.slice none 0 0, .string (⟨#[]⟩ : ByteArray)]) ?_ 0 _ rfl; (with_reducible repeat (first | refine blk_drewN ?_ _ | refine blk_drew ?_ | refine blk_alloc ?_ _)); exact BK311.out)) : gb312 ≠ gb311)); clear HO_1; clear HO_2; clear HO_290000; clear HO_291000; clear HO308; clear BK289; clear BK290; clear BK311; clear HB; have HO_1 := n0_; have HO_2 := n1_; have HO_290000 := n2_; have HO_291000 := n3_; have HO308 := n4_; have BK289 := n5_; have BK290 := n6_; have BK311 := n7_; have HB := n8_; have BK312 := n9_; have GW312 := n10_; have GE312 := n11_; have NB289_312 := n12_; have NB312_289 := n13_; have NB290_312 := n14_; have NB312_290 := n15_; have NB311_312 := n16_; have NB312_311 := n17_; clear n0_ n1_ n2_ n3_ n4_ n5_ n6_ n7_ n8_ n9_ n10_ n11_ n12_ n13_ n14_ n15_ n16_ n17_; clear hb hbox hg; have hnb66 := NB312_289.out; have hnc66 := NB289_312.out; have hnb67 := NB312_290.out; have hnc67 := NB290_312.out; have hnb68 := NB312_311.out; have hnc68 := NB311_312.out; have hcz69_0 : w65.cell? ⟨gb312, 0, none⟩ = some (.slice none 0 0) := (blk_cell BK312.out 0).trans rfl; have hcz69_1 : w65.cell? ⟨gb312, 1, none⟩ = some (.string (⟨#[]⟩ : ByteArray)) := (blk_cell BK312.out 1).trans rfl; have hfz69_0 := blk_frozen BK312.out 0; have hfz69_1 := blk_frozen BK312.out 1))
                  have n0_ : Aside0 (Kd.R Kd.string 9 ((w65.setCell ⟨gb312, 0, none⟩ (.slice Ao61 t306.length co61)).setCell ⟨gb312, 1, none⟩ (.string t309)) w.heap.size (fun k_ => some k_ ≠ (u2 : Value).ownBlock) (.slice (some ad283) y280.length co7) y280) := ⟨by (with_reducible repeat (first | apply Kd.R_alloc | apply Kd.R_drewN | apply Kd.R_drew)); exact Kd.R_mono (Kd.R_far (p := ⟨gb312, 1, none⟩) (Kd.R_far (p := ⟨gb312, 0, none⟩) (Kd.R_types HO_1.out BK312.out (by decide)) (fun _ hk => hk.2) (.slice Ao61 t306.length co61)) (fun _ hk => hk.2) (.string t309)) (fun _ hk => hk.1)⟩
                  have n1_ : Aside0 (Kd.R Kd.string 9 ((w65.setCell ⟨gb312, 0, none⟩ (.slice Ao61 t306.length co61)).setCell ⟨gb312, 1, none⟩ (.string t309)) w.heap.size (fun k_ => some k_ ≠ (.slice (some ad283) y280.length co7 : Value).ownBlock) u2 x2_43) := ⟨by (with_reducible repeat (first | apply Kd.R_alloc | apply Kd.R_drewN | apply Kd.R_drew)); exact Kd.R_mono (Kd.R_far (p := ⟨gb312, 1, none⟩) (Kd.R_far (p := ⟨gb312, 0, none⟩) (Kd.R_types HO_2.out BK312.out (by decide)) (fun _ hk => hk.2) (.slice Ao61 t306.length co61)) (fun _ hk => hk.2) (.string t309)) (fun _ hk => hk.1)⟩
                  have n2_ : Aside0 (Kd.R (Kd.int .i64) 3 ((w65.setCell ⟨gb312, 0, none⟩ (.slice Ao61 t306.length co61)).setCell ⟨gb312, 1, none⟩ (.string t309)) w.heap.size (fun k_ => some k_ ≠ (.slice Ao61 t306.length co61 : Value).ownBlock) (.slice Ao10 t284.length co10) t284) := ⟨by (with_reducible repeat (first | apply Kd.R_alloc | apply Kd.R_drewN | apply Kd.R_drew)); exact Kd.R_mono (Kd.R_far (p := ⟨gb312, 1, none⟩) (Kd.R_far (p := ⟨gb312, 0, none⟩) (Kd.R_types HO_290000.out BK312.out (by decide)) (fun _ hk => hk.2) (.slice Ao61 t306.length co61)) (fun _ hk => hk.2) (.string t309)) (fun _ hk => hk.1.2)⟩
                  have n3_ : Aside0 (Kd.R (Kd.int .i64) 3 ((w65.setCell ⟨gb312, 0, none⟩ (.slice Ao61 t306.length co61)).setCell ⟨gb312, 1, none⟩ (.string t309)) w.heap.size (fun k_ => some k_ ≠ (.slice Ao61 t306.length co61 : Value).ownBlock) (.slice Ao10 t284.length co10) t284) := ⟨by (with_reducible repeat (first | apply Kd.R_alloc | apply Kd.R_drewN | apply Kd.R_drew)); exact Kd.R_mono (Kd.R_far (p := ⟨gb312, 1, none⟩) (Kd.R_far (p := ⟨gb312, 0, none⟩) (Kd.R_types HO_291000.out BK312.out (by decide)) (fun _ hk => hk.2) (.slice Ao61 t306.length co61)) (fun _ hk => hk.2) (.string t309)) (fun _ hk => hk.1.2)⟩
                  have n4_ : Aside0 (Kd.R (Kd.int .i64) 3 ((w65.setCell ⟨gb312, 0, none⟩ (.slice Ao61 t306.length co61)).setCell ⟨gb312, 1, none⟩ (.string t309)) w.heap.size (fun k_ => some k_ ≠ (.slice Ao10 t284.length co10 : Value).ownBlock ∧ some k_ ≠ (.slice Ao10 t284.length co10 : Value).ownBlock) (.slice Ao61 t306.length co61) t306) := ⟨by (with_reducible repeat (first | apply Kd.R_alloc | apply Kd.R_drewN | apply Kd.R_drew)); exact Kd.R_mono (Kd.R_far (p := ⟨gb312, 1, none⟩) (Kd.R_far (p := ⟨gb312, 0, none⟩) (Kd.R_types HO308.out BK312.out (by decide)) (fun _ hk => hk.2) (.slice Ao61 t306.length co61)) (fun _ hk => hk.2) (.string t309)) (fun _ hk => ⟨hk.1.1.2, hk.1.2⟩)⟩
                  have n5_ : Aside0 (((w65.setCell ⟨gb312, 0, none⟩ (.slice Ao61 t306.length co61)).setCell ⟨gb312, 1, none⟩ (.string t309)).heap[gb289]? = some (.cells #[.slice Ao10 t284.length co10, .string t287] 30 (0, 0))) := ⟨by (with_reducible repeat (first | refine blk_drewN ?_ _ | refine blk_drew ?_ | refine blk_alloc ?_ _)); refine blk_far ?_ NB289_312.out _; (with_reducible repeat (first | refine blk_drewN ?_ _ | refine blk_drew ?_ | refine blk_alloc ?_ _)); refine blk_far ?_ NB289_312.out _; (with_reducible repeat (first | refine blk_drewN ?_ _ | refine blk_drew ?_ | refine blk_alloc ?_ _)); exact BK289.out⟩
                  have n6_ : Aside0 (((w65.setCell ⟨gb312, 0, none⟩ (.slice Ao61 t306.length co61)).setCell ⟨gb312, 1, none⟩ (.string t309)).heap[gb290]? = some (.cells #[.slice Ao10 t284.length co10, .string t287] 24 (0, 0))) := ⟨by (with_reducible repeat (first | refine blk_drewN ?_ _ | refine blk_drew ?_ | refine blk_alloc ?_ _)); refine blk_far ?_ NB290_312.out _; (with_reducible repeat (first | refine blk_drewN ?_ _ | refine blk_drew ?_ | refine blk_alloc ?_ _)); refine blk_far ?_ NB290_312.out _; (with_reducible repeat (first | refine blk_drewN ?_ _ | refine blk_drew ?_ | refine blk_alloc ?_ _)); exact BK290.out⟩
                  have n7_ : Aside0 (((w65.setCell ⟨gb312, 0, none⟩ (.slice Ao61 t306.length co61)).setCell ⟨gb312, 1, none⟩ (.string t309)).heap[gb311]? = some (.cells #[.slice Ao61 t306.length co61, .string t309] 30 (0, 0))) := ⟨by (with_reducible repeat (first | refine blk_drewN ?_ _ | refine blk_drew ?_ | refine blk_alloc ?_ _)); refine blk_far ?_ NB311_312.out _; (with_reducible repeat (first | refine blk_drewN ?_ _ | refine blk_drew ?_ | refine blk_alloc ?_ _)); refine blk_far ?_ NB311_312.out _; (with_reducible repeat (first | refine blk_drewN ?_ _ | refine blk_drew ?_ | refine blk_alloc ?_ _)); exact BK311.out⟩
                  have n8_ : Aside0 (((w65.setCell ⟨gb312, 0, none⟩ (.slice Ao61 t306.length co61)).setCell ⟨gb312, 1, none⟩ (.string t309)).heap[gb312]? = some (.cells #[.slice Ao61 t306.length co61, .string t309] 24 (0, 0))) := ⟨by (with_reducible repeat (first | refine blk_drewN ?_ _ | refine blk_drew ?_ | refine blk_alloc ?_ _)); refine blk_put (cs := #[.slice Ao61 t306.length co61, .string (⟨#[]⟩ : ByteArray)]) ?_ 1 _ rfl; (with_reducible repeat (first | refine blk_drewN ?_ _ | refine blk_drew ?_ | refine blk_alloc ?_ _)); refine blk_put (cs := #[.slice none 0 0, .string (⟨#[]⟩ : ByteArray)]) ?_ 0 _ rfl; (with_reducible repeat (first | refine blk_drewN ?_ _ | refine blk_drew ?_ | refine blk_alloc ?_ _)); exact BK312.out⟩
                  have n9_ : Aside0 (Below w.heap.size w ((w65.setCell ⟨gb312, 0, none⟩ (.slice Ao61 t306.length co61)).setCell ⟨gb312, 1, none⟩ (.string t309))) := ⟨tb⟩
                  (try clear HO_1)
                  (try clear HO_2)
                  (try clear HO_290000)
                  (try clear HO_291000)
                  (try clear HO308)
                  (try clear BK289)
                  (try clear BK290)
                  (try clear BK311)
                  (try clear BK312)
                  (try clear HB)
                  generalize ((w65.setCell ⟨gb312, 0, none⟩ (.slice Ao61 t306.length co61)).setCell ⟨gb312, 1, none⟩ (.string t309)) = w70 at n0_ n1_ n2_ n3_ n4_ n5_ n6_ n7_ n8_ n9_ ⊢
                  have HO_1 := n0_
                  have HO_2 := n1_
                  have HO_290000 := n2_
                  have HO_291000 := n3_
                  have HO308 := n4_
                  have BK289 := n5_
                  have BK290 := n6_
                  have BK311 := n7_
                  have BK312 := n8_
                  have HB := n9_
                  clear n0_ n1_ n2_ n3_ n4_ n5_ n6_ n7_ n8_ n9_
                  have n0_ := Aside0.mk (Kd.R_drew HO_1.out)
                  have n1_ := Aside0.mk (Kd.R_drew HO_2.out)
                  have n2_ := Aside0.mk (Kd.R_drew HO_290000.out)
                  have n3_ := Aside0.mk (Kd.R_drew HO_291000.out)
                  have n4_ := Aside0.mk (Kd.R_drew HO308.out)
                  have n5_ := Aside0.mk (blk_drew BK289.out)
                  have n6_ := Aside0.mk (blk_drew BK290.out)
                  have n7_ := Aside0.mk (blk_drew BK311.out)
                  have n8_ := Aside0.mk (blk_drew BK312.out)
                  have n9_ := Aside0.mk (below_drew1 HB.out)
                  clear HO_1
                  clear HO_2
                  clear HO_290000
                  clear HO_291000
                  clear HO308
                  clear BK289
                  clear BK290
                  clear BK311
                  clear BK312
                  clear HB
                  have HO_1 := n0_
                  have HO_2 := n1_
                  have HO_290000 := n2_
                  have HO_291000 := n3_
                  have HO308 := n4_
                  have BK289 := n5_
                  have BK290 := n6_
                  have BK311 := n7_
                  have BK312 := n8_
                  have HB := n9_
                  clear n0_ n1_ n2_ n3_ n4_ n5_ n6_ n7_ n8_ n9_
                  have p313 : 0 ≤ (x3_1 : Int) := of_decide_eq_true (by first | (with_reducible assumption) | assumption)
                  have q313 : x3_1 < (y280.length : Int) := of_decide_eq_true (by first | (with_reducible assumption) | assumption)
                  obtain ⟨ad313, e313, hx313_0⟩ := Kd.at_string (Kd.R_reads' HO_1.out).2.2 x3_1 p313 q313
                  obtain rfl : ad283 = ad313 := (by injection e313)
                  replace p313 := eq_true p313
                  replace q313 := eq_true q313
                  have p314 : 0 ≤ (x7_4 : Int) := of_decide_eq_true (by first | (with_reducible assumption) | assumption)
                  have q314 : x7_4 < (y280.length : Int) := of_decide_eq_true (by first | (with_reducible assumption) | assumption)
                  obtain ⟨ad314, e314, hx314_0⟩ := Kd.at_string (Kd.R_reads' HO_1.out).2.2 x7_4 p314 q314
                  obtain rfl : ad283 = ad314 := (by injection e314)
                  replace p314 := eq_true p314
                  replace q314 := eq_true q314
                  refine start_ (n := 20) (S := fun w' => w'.cell? ⟨gb290, 0, none⟩ = some (.slice Ao10 t284.length co10) ∧ w'.cell? ⟨gb290, 1, none⟩ = some (.string t287) ∧ w'.cell? ⟨gb312, 0, none⟩ = some (.slice Ao61 t306.length co61) ∧ w'.cell? ⟨gb312, 1, none⟩ = some (.string t309) ∧ w'.cell? (ad283.add (x3_1).toNat) = some (.string (rdOf ByteArray.empty y280 x3_1)) ∧ w'.cell? (ad283.add (x7_4).toNat) = some (.string (rdOf ByteArray.empty y280 x7_4))) (ds := []) #[false, false, false, false, false, false, false, false, false, false, false, false, false, false, false, false, false, false, false, false] (by kernel_rfl) rfl rfl ⟨(blk_cell BK290.out 0).trans rfl, (blk_cell BK290.out 1).trans rfl, (blk_cell BK312.out 0).trans rfl, (blk_cell BK312.out 1).trans rfl, hx313_0, hx314_0⟩ (fun hHeld => ?_); refine with_tabW tithebarnlaw13_VersionKnown.tab17 tithebarnlaw13_VersionKnown.bits17 (fun HT_ HW_ => ?_)
                  generalize w70.drew = w71 at HO_1 HO_2 HO_290000 HO_291000 HO308 BK289 BK290 BK311 BK312 HB hx313_0 hx314_0 hHeld ⊢
                  refine pure_ (i := 2) (N := some 91) (v := ?_) (a' := ?_) #[false, false, true, false, false, false, false, false, false, false, false, false, false, false, false, false, false, false, false, false] rfl rfl (any_of HT_.out (by kernel_rfl)) (fun _ _ _ h => h) (Or.inl ⟨by rfl, ?_⟩) ?_ ?_
                  rotate_left
                  · intro w'
                    go_simp
                    with_reducible rfl
                  rotate_left
                  · simp only [Act.put, List.setIfInBounds_toArray, List.set_cons_zero, List.set_cons_succ, i64_w, i32_w]
                    rfl
                  refine pure_ (i := 3) (N := some 92) (v := ?_) (a' := ?_) #[false, false, true, true, false, false, false, false, false, false, false, false, false, false, false, false, false, false, false, false] rfl rfl (any_of HT_.out (by kernel_rfl)) (fun _ _ _ h => h) (Or.inl ⟨by rfl, ?_⟩) ?_ ?_
                  rotate_left
                  · intro w'
                    go_simp
                    with_reducible rfl
                  rotate_left
                  · simp only [Act.put, List.setIfInBounds_toArray, List.set_cons_zero, List.set_cons_succ, i64_w, i32_w]
                    rfl
                  refine pure_ (i := 4) (N := some 93) (v := ?_) (a' := ?_) #[false, false, true, true, true, false, false, false, false, false, false, false, false, false, false, false, false, false, false, false] rfl rfl (any_of HT_.out (by kernel_rfl)) (fun _ _ _ h => h) (Or.inl ⟨by rfl, ?_⟩) ?_ ?_
                  rotate_left
                  · intro w'
                    go_simp
                    with_reducible rfl
                  rotate_left
                  · simp only [Act.put, List.setIfInBounds_toArray, List.set_cons_zero, List.set_cons_succ, i64_w, i32_w]
                    rfl
                  refine pure_ (i := 6) (N := some 95) (v := ?_) (a' := ?_) #[false, false, true, true, true, false, true, false, false, false, false, false, false, false, false, false, false, false, false, false] rfl rfl (any_of HT_.out (by kernel_rfl)) (fun _ _ _ h => h) (Or.inl ⟨by rfl, ?_⟩) ?_ ?_
                  rotate_left
                  · intro w'
                    go_simp
                    with_reducible rfl
                  rotate_left
                  · simp only [Act.put, List.setIfInBounds_toArray, List.set_cons_zero, List.set_cons_succ, i64_w, i32_w]
                    rfl
                  refine pure_ (i := 7) (N := some 96) (v := ?_) (a' := ?_) #[false, false, true, true, true, false, true, true, false, false, false, false, false, false, false, false, false, false, false, false] rfl rfl (any_of HT_.out (by kernel_rfl)) (fun _ _ _ h => h) (Or.inl ⟨by rfl, ?_⟩) ?_ ?_
                  rotate_left
                  · intro w'
                    go_simp
                    with_reducible rfl
                  rotate_left
                  · simp only [Act.put, List.setIfInBounds_toArray, List.set_cons_zero, List.set_cons_succ, i64_w, i32_w]
                    rfl
                  refine pure_ (i := 8) (N := some 97) (v := ?_) (a' := ?_) #[false, false, true, true, true, false, true, true, true, false, false, false, false, false, false, false, false, false, false, false] rfl rfl (any_of HT_.out (by kernel_rfl)) (fun _ _ _ h => h) (Or.inl ⟨by rfl, ?_⟩) ?_ ?_
                  rotate_left
                  · intro w'
                    go_simp
                    with_reducible rfl
                  rotate_left
                  · simp only [Act.put, List.setIfInBounds_toArray, List.set_cons_zero, List.set_cons_succ, i64_w, i32_w]
                    rfl
                  refine take_ (i := 0) (N := some 89) (v := ?_) (a' := ?_) #[true, false, true, true, true, false, true, true, true, false, false, false, false, false, false, false, false, false, false, false] rfl rfl (take_ofW HT_.out HW_.out (by kernel_rfl)) (fun _ _ _ h => h) (Or.inl ⟨by rfl, ?_⟩) hHeld ?_ ?_
                  rotate_left
                  · rintro w' ⟨s0, s1, s2, s3, s4, s5⟩
                    go_simp
                    with_reducible rfl
                  rotate_left
                  · simp only [Act.put, List.setIfInBounds_toArray, List.set_cons_zero, List.set_cons_succ, i64_w, i32_w]
                    rfl
                  refine take_ (i := 1) (N := some 90) (v := ?_) (a' := ?_) #[true, true, true, true, true, false, true, true, true, false, false, false, false, false, false, false, false, false, false, false] rfl rfl (take_ofW HT_.out HW_.out (by kernel_rfl)) (fun _ _ _ h => h) (Or.inl ⟨by rfl, ?_⟩) hHeld ?_ ?_
                  rotate_left
                  · rintro w' ⟨s0, s1, s2, s3, s4, s5⟩
                    go_simp
                    with_reducible rfl
                  rotate_left
                  · simp only [Act.put, List.setIfInBounds_toArray, List.set_cons_zero, List.set_cons_succ, i64_w, i32_w]
                    rfl
                  refine take_ (i := 5) (N := some 94) (v := ?_) (a' := ?_) #[true, true, true, true, true, true, true, true, true, false, false, false, false, false, false, false, false, false, false, false] rfl rfl (take_ofW HT_.out HW_.out (by kernel_rfl)) (fun _ _ _ h => h) (Or.inl ⟨by rfl, ?_⟩) hHeld ?_ ?_
                  rotate_left
                  · rintro w' ⟨s0, s1, s2, s3, s4, s5⟩
                    go_simp
                    with_reducible rfl
                  rotate_left
                  · simp only [Act.put, List.setIfInBounds_toArray, List.set_cons_zero, List.set_cons_succ, i64_w, i32_w]
                    rfl
                  refine take_ (i := 9) (N := some 98) (v := ?_) (a' := ?_) #[true, true, true, true, true, true, true, true, true, true, false, false, false, false, false, false, false, false, false, false] rfl rfl (take_ofW HT_.out HW_.out (by kernel_rfl)) (fun _ _ _ h => h) (Or.inl ⟨by rfl, ?_⟩) hHeld ?_ ?_
                  rotate_left
                  · rintro w' ⟨s0, s1, s2, s3, s4, s5⟩
                    go_simp
                    with_reducible rfl
                  rotate_left
                  · simp only [Act.put, List.setIfInBounds_toArray, List.set_cons_zero, List.set_cons_succ, i64_w, i32_w]
                    rfl
                  refine one_ (i := 10) (N := some 99) #[true, true, true, true, true, true, true, true, true, true, true, false, false, false, false, false, false, false, false, false] rfl rfl (one_of HT_.out (by kernel_rfl)) (by decide) (fun K hK => ?_)
                  refine goes_ Tryz.func19 (by kernel_rfl) rfl #[.agg #[.slice Ao10 t284.length co10, .string t287], .agg #[.slice Ao61 t306.length co61, .string t309], .string (rdOf ByteArray.empty y280 x3_1), .string (rdOf ByteArray.empty y280 x7_4)] (by rfl) rfl rfl (by (try simp only [List.map_toArray, List.map_cons, List.map_nil]); first | done | rfl | (simp only [List.length_drop, List.length_take]; rfl)) ?_
                  with_reducible refine (tithebarnlaw13_VersionCompare.calls k4 _ _ t284 t287 _ _ t306 t309 (rdOf ByteArray.empty y280 x3_1) (rdOf ByteArray.empty y280 x7_4) true _ ?side1 ?side2 ?side3 ?side4 ?side5 A55.out (tithebarnlaw13_VersionCompare_t A55.out)).mono ?_
                  (case side1 => repeat (first | exact (Kd.R_reads' HO_291000.out).2.2 | (with_reducible refine Kd.C_alloc ?_ _) | (with_reducible refine Kd.C_drewN ?_ _) | (with_reducible refine Kd.C_drew ?_)))
                  (case side2 => exact (Kd.R_reads' HO_291000.out).2.1)
                  (case side3 => repeat (first | exact (Kd.R_reads' HO308.out).2.2 | (with_reducible refine Kd.C_alloc ?_ _) | (with_reducible refine Kd.C_drewN ?_ _) | (with_reducible refine Kd.C_drew ?_)))
                  (case side4 => exact (Kd.R_reads' HO308.out).2.1)
                  (case side5 => exact VTabs.below HTabs.out tb)
                  rintro e w72 ⟨rfl, hb⟩
                  have HS4_ := (hb.cell (World.block_lt_of_cell? _ _ (hHeld.2.2.2.2.1))).trans (hHeld.2.2.2.2.1)
                  have HS5_ := (hb.cell (World.block_lt_of_cell? _ _ (hHeld.2.2.2.2.2))).trans (hHeld.2.2.2.2.2)
                  refine ⟨_, rfl, ?_⟩
                  have n0_ := Aside0.mk (Kd.R_below (by (with_reducible repeat (first | apply Kd.R_alloc | apply Kd.R_drewN | apply Kd.R_drew)); exact HO_1.out) hb)
                  have n1_ := Aside0.mk (Kd.R_below (by (with_reducible repeat (first | apply Kd.R_alloc | apply Kd.R_drewN | apply Kd.R_drew)); exact HO_2.out) hb)
                  have n2_ := Aside0.mk (Kd.R_below (by (with_reducible repeat (first | apply Kd.R_alloc | apply Kd.R_drewN | apply Kd.R_drew)); exact HO_290000.out) hb)
                  have n3_ := Aside0.mk (Kd.R_below (by (with_reducible repeat (first | apply Kd.R_alloc | apply Kd.R_drewN | apply Kd.R_drew)); exact HO_291000.out) hb)
                  have n4_ := Aside0.mk (Kd.R_below (by (with_reducible repeat (first | apply Kd.R_alloc | apply Kd.R_drewN | apply Kd.R_drew)); exact HO308.out) hb)
                  have n5_ := Aside0.mk (blk_below (g := gb289) (o := .cells #[.slice Ao10 t284.length co10, .string t287] 30 (0, 0)) tk hb)
                  have n6_ := Aside0.mk (blk_below (g := gb290) (o := .cells #[.slice Ao10 t284.length co10, .string t287] 24 (0, 0)) tk hb)
                  have n7_ := Aside0.mk (blk_below (g := gb311) (o := .cells #[.slice Ao61 t306.length co61, .string t309] 30 (0, 0)) tk hb)
                  have n8_ := Aside0.mk (blk_below (g := gb312) (o := .cells #[.slice Ao61 t306.length co61, .string t309] 24 (0, 0)) tk hb)
                  have n9_ := Aside0.mk (below_step tb hb)
                  clear HO_1
                  clear HO_2
                  clear HO_290000
                  clear HO_291000
                  clear HO308
                  clear BK289
                  clear BK290
                  clear BK311
                  clear BK312
                  clear HB
                  have HO_1 := n0_
                  have HO_2 := n1_
                  have HO_290000 := n2_
                  have HO_291000 := n3_
                  have HO308 := n4_
                  have BK289 := n5_
                  have BK290 := n6_
                  have BK311 := n7_
                  have BK312 := n8_
                  have HB := n9_
                  clear n0_ n1_ n2_ n3_ n4_ n5_ n6_ n7_ n8_ n9_
                  (try clear hb)
                  (try clear hb2)
                  (try clear hk)
                  (try clear hi)
                  refine hK.out _ _ ⟨(blk_cell BK290.out 0).trans rfl, (blk_cell BK290.out 1).trans rfl, (blk_cell BK312.out 0).trans rfl, (blk_cell BK312.out 1).trans rfl, HS4_, HS5_⟩ (fun hHeld => ?_)
                  clear hK K
                  refine norm_ (a' := ?_) ?_ ?_
                  rotate_left
                  · show Act.put _ (some 99) _ = _
                    simp only [Act.put, List.setIfInBounds_toArray, List.set_cons_zero, List.set_cons_succ, i64_w, i32_w]
                    rfl
                  refine pure_ (i := 11) (N := some 100) (v := ?_) (a' := ?_) #[true, true, true, true, true, true, true, true, true, true, true, true, false, false, false, false, false, false, false, false] rfl rfl (any_of HT_.out (by kernel_rfl)) (fun _ _ _ h => h) (Or.inl ⟨by rfl, ?_⟩) ?_ ?_
                  rotate_left
                  · intro w'
                    go_simp
                    with_reducible rfl
                  rotate_left
                  · simp only [Act.put, List.setIfInBounds_toArray, List.set_cons_zero, List.set_cons_succ, i64_w, i32_w]
                    rfl
                  refine pure_ (i := 12) (N := some 101) (v := ?_) (a' := ?_) #[true, true, true, true, true, true, true, true, true, true, true, true, true, false, false, false, false, false, false, false] rfl rfl (any_of HT_.out (by kernel_rfl)) (fun _ _ _ h => h) (Or.inl ⟨by rfl, ?_⟩) ?_ ?_
                  rotate_left
                  · intro w'
                    go_simp
                    with_reducible rfl
                  rotate_left
                  · simp only [Act.put, List.setIfInBounds_toArray, List.set_cons_zero, List.set_cons_succ, i64_w, i32_w]
                    rfl
                  refine take_ (i := 13) (N := some 102) (v := ?_) (a' := ?_) #[true, true, true, true, true, true, true, true, true, true, true, true, true, true, false, false, false, false, false, false] rfl rfl (take_ofW HT_.out HW_.out (by kernel_rfl)) (fun _ _ _ h => h) (Or.inl ⟨by rfl, ?_⟩) hHeld ?_ ?_
                  rotate_left
                  · rintro w' ⟨s0, s1, s2, s3, s4, s5⟩
                    go_simp
                    with_reducible rfl
                  rotate_left
                  · simp only [Act.put, List.setIfInBounds_toArray, List.set_cons_zero, List.set_cons_succ, i64_w, i32_w]
                    rfl
                  refine take_ (i := 14) (N := some 103) (v := ?_) (a' := ?_) #[true, true, true, true, true, true, true, true, true, true, true, true, true, true, true, false, false, false, false, false] rfl rfl (take_ofW HT_.out HW_.out (by kernel_rfl)) (fun _ _ _ h => h) (Or.inl ⟨by rfl, ?_⟩) hHeld ?_ ?_
                  rotate_left
                  · rintro w' ⟨s0, s1, s2, s3, s4, s5⟩
                    go_simp
                    with_reducible rfl
                  rotate_left
                  · simp only [Act.put, List.setIfInBounds_toArray, List.set_cons_zero, List.set_cons_succ, i64_w, i32_w]
                    rfl
                  refine one_ (i := 15) (N := some 104) #[true, true, true, true, true, true, true, true, true, true, true, true, true, true, true, true, false, false, false, false] rfl rfl (one_of HT_.out (by kernel_rfl)) (by decide) (fun K hK => ?_)
                  refine Kd.R_lit_step (Kd.int .i64) _ 3 ?hg (N := 104) ?hd (xs := ([1, 2] : List Int)) (inner := [.int .i64 1, .int .i64 2]) (ok := fun _ => True) (okp := fun _ => True) ?hr ?hp (fun _ hk => hk) trivial (Below.refl _ _) (Nat.le_refl _) (by simp) ?_; (case hd => rfl); (case hg => rfl); (case hr => first | (go_simp; done) | (go_simp; rfl)); (case hp => exact (Reps.one (show Kd.M (Kd.int .i64) _ _ _ 1 [.int .i64 1] from rfl) (Reps.one (show Kd.M (Kd.int .i64) _ _ _ 2 [.int .i64 2] from rfl) (Reps.none _ _))))
                  intro v317 w73 ho74 hb hg_ hnew_
                  have HS4_ := (hb.cell (World.block_lt_of_cell? _ _ (hHeld.2.2.2.2.1))).trans (hHeld.2.2.2.2.1)
                  have HS5_ := (hb.cell (World.block_lt_of_cell? _ _ (hHeld.2.2.2.2.2))).trans (hHeld.2.2.2.2.2)
                  clear hg_ hnew_
                  (first | rw [← Ny316.out] at ho74 | (simp only [Int.reduceToNat] at ho74; rw [← Ny316.out] at ho74))
                  have n0_ := Aside0.mk (Kd.R_below (by (with_reducible repeat (first | apply Kd.R_alloc | apply Kd.R_drewN | apply Kd.R_drew)); exact HO_1.out) hb)
                  have n1_ := Aside0.mk (Kd.R_below (by (with_reducible repeat (first | apply Kd.R_alloc | apply Kd.R_drewN | apply Kd.R_drew)); exact HO_2.out) hb)
                  have n2_ := Aside0.mk (Kd.R_elder' (by (with_reducible repeat (first | apply Kd.R_alloc | apply Kd.R_drewN | apply Kd.R_drew)); exact HO_290000.out) (Kd.R_base ho74) hb)
                  have n3_ := Aside0.mk (Kd.R_elder' (by (with_reducible repeat (first | apply Kd.R_alloc | apply Kd.R_drewN | apply Kd.R_drew)); exact HO_291000.out) (Kd.R_base ho74) hb)
                  have n4_ := Aside0.mk (Kd.R_elder' (by (with_reducible repeat (first | apply Kd.R_alloc | apply Kd.R_drewN | apply Kd.R_drew)); exact HO308.out) (Kd.R_base ho74) hb)
                  have n5_ := Aside0.mk (Kd.R_lower (Kd.R_new' (Kd.R_new' (Kd.R_new' ho74 (Kd.R_lt (by (with_reducible repeat (first | apply Kd.R_alloc | apply Kd.R_drewN | apply Kd.R_drew)); exact HO_290000.out))) (Kd.R_lt (by (with_reducible repeat (first | apply Kd.R_alloc | apply Kd.R_drewN | apply Kd.R_drew)); exact HO_291000.out))) (Kd.R_lt (by (with_reducible repeat (first | apply Kd.R_alloc | apply Kd.R_drewN | apply Kd.R_drew)); exact HO308.out))) (below_size tb))
                  have n6_ := Aside0.mk (blk_below (g := gb289) (o := .cells #[.slice Ao10 t284.length co10, .string t287] 30 (0, 0)) tk hb)
                  have n7_ := Aside0.mk (blk_below (g := gb290) (o := .cells #[.slice Ao10 t284.length co10, .string t287] 24 (0, 0)) tk hb)
                  have n8_ := Aside0.mk (blk_below (g := gb311) (o := .cells #[.slice Ao61 t306.length co61, .string t309] 30 (0, 0)) tk hb)
                  have n9_ := Aside0.mk (blk_below (g := gb312) (o := .cells #[.slice Ao61 t306.length co61, .string t309] 24 (0, 0)) tk hb)
                  have n10_ := Aside0.mk (below_step tb hb)
                  clear HO_1
                  clear HO_2
                  clear HO_290000
                  clear HO_291000
                  clear HO308
                  clear BK289
                  clear BK290
                  clear BK311
                  clear BK312
                  clear HB
                  have HO_1 := n0_
                  have HO_2 := n1_
                  have HO_290000 := n2_
                  have HO_291000 := n3_
                  have HO308 := n4_
                  have HO318 := n5_
                  have BK289 := n6_
                  have BK290 := n7_
                  have BK311 := n8_
                  have BK312 := n9_
                  have HB := n10_
                  clear n0_ n1_ n2_ n3_ n4_ n5_ n6_ n7_ n8_ n9_ n10_
                  clear hb ho74
                  obtain ⟨Ao75, co75, eo75⟩ := Kd.R_slice HO318.out
                  (first | subst eo75 | (injection eo75 with f1_ f2_ f3_; have f4_ := f1_.symm; have f5_ := f3_.symm; clear f1_ f2_ f3_; subst f4_; subst f5_))
                  refine hK.out _ _ ⟨(blk_cell BK290.out 0).trans rfl, (blk_cell BK290.out 1).trans rfl, (blk_cell BK312.out 0).trans rfl, (blk_cell BK312.out 1).trans rfl, HS4_, HS5_⟩ (fun hHeld => ?_)
                  clear hK K
                  refine norm_ (a' := ?_) ?_ ?_
                  rotate_left
                  · show Act.put _ (some 104) _ = _
                    simp only [Act.put, List.setIfInBounds_toArray, List.set_cons_zero, List.set_cons_succ, i64_w, i32_w]
                    rfl
                  refine pure_ (i := 16) (N := some 105) (v := ?_) (a' := ?_) #[true, true, true, true, true, true, true, true, true, true, true, true, true, true, true, true, true, false, false, false] rfl rfl (any_of HT_.out (by kernel_rfl)) (fun _ _ _ h => h) (Or.inl ⟨by rfl, ?_⟩) ?_ ?_
                  rotate_left
                  · intro w'
                    go_simp
                    with_reducible rfl
                  rotate_left
                  · simp only [Act.put, List.setIfInBounds_toArray, List.set_cons_zero, List.set_cons_succ, i64_w, i32_w]
                    rfl
                  refine one_ (i := 17) (N := some 106) #[true, true, true, true, true, true, true, true, true, true, true, true, true, true, true, true, true, true, false, false] rfl rfl (one_of HT_.out (by kernel_rfl)) (by decide) (fun K hK => ?_)
                  refine goes_ Tryz.func20 (by kernel_rfl) rfl #[.agg #[.slice Ao10 t284.length co10, .string t287], .agg #[.slice Ao61 t306.length co61, .string t309], .agg #[.slice Ao75 y316.length co75, .string (⟨#[]⟩ : ByteArray)]] (by rfl) rfl rfl (by (try simp only [List.map_toArray, List.map_cons, List.map_nil]); first | done | rfl | (simp only [List.length_drop, List.length_take]; rfl)) ?_
                  with_reducible refine (tithebarnlaw13_VersionOrder.calls k4 _ _ t284 t287 _ _ t306 t309 _ _ y316 (⟨#[]⟩ : ByteArray) true _ ?side1 ?side2 ?side3 ?side4 ?side5 ?side6 ?side7 A57.out (tithebarnlaw13_VersionOrder_t A57.out)).mono ?_
                  (case side1 => repeat (first | exact (Kd.R_reads' HO_291000.out).2.2 | (with_reducible refine Kd.C_alloc ?_ _) | (with_reducible refine Kd.C_drewN ?_ _) | (with_reducible refine Kd.C_drew ?_)))
                  (case side2 => exact (Kd.R_reads' HO_291000.out).2.1)
                  (case side3 => repeat (first | exact (Kd.R_reads' HO308.out).2.2 | (with_reducible refine Kd.C_alloc ?_ _) | (with_reducible refine Kd.C_drewN ?_ _) | (with_reducible refine Kd.C_drew ?_)))
                  (case side4 => exact (Kd.R_reads' HO308.out).2.1)
                  (case side5 => repeat (first | exact (Kd.R_reads' HO318.out).2.2 | (with_reducible refine Kd.C_alloc ?_ _) | (with_reducible refine Kd.C_drewN ?_ _) | (with_reducible refine Kd.C_drew ?_)))
                  (case side6 => exact (Kd.R_reads' HO318.out).2.1)
                  (case side7 => exact VTabs.below HTabs.out tb)
                  rintro e w76 ⟨rfl, hb⟩
                  have HS4_ := (hb.cell (World.block_lt_of_cell? _ _ (hHeld.2.2.2.2.1))).trans (hHeld.2.2.2.2.1)
                  have HS5_ := (hb.cell (World.block_lt_of_cell? _ _ (hHeld.2.2.2.2.2))).trans (hHeld.2.2.2.2.2)
                  refine ⟨_, rfl, ?_⟩
                  have n0_ := Aside0.mk (Kd.R_below (by (with_reducible repeat (first | apply Kd.R_alloc | apply Kd.R_drewN | apply Kd.R_drew)); exact HO_1.out) hb)
                  have n1_ := Aside0.mk (Kd.R_below (by (with_reducible repeat (first | apply Kd.R_alloc | apply Kd.R_drewN | apply Kd.R_drew)); exact HO_2.out) hb)
                  have n2_ := Aside0.mk (Kd.R_below (by (with_reducible repeat (first | apply Kd.R_alloc | apply Kd.R_drewN | apply Kd.R_drew)); exact HO_290000.out) hb)
                  have n3_ := Aside0.mk (Kd.R_below (by (with_reducible repeat (first | apply Kd.R_alloc | apply Kd.R_drewN | apply Kd.R_drew)); exact HO_291000.out) hb)
                  have n4_ := Aside0.mk (Kd.R_below (by (with_reducible repeat (first | apply Kd.R_alloc | apply Kd.R_drewN | apply Kd.R_drew)); exact HO308.out) hb)
                  have n5_ := Aside0.mk (Kd.R_below (by (with_reducible repeat (first | apply Kd.R_alloc | apply Kd.R_drewN | apply Kd.R_drew)); exact HO318.out) hb)
                  have n6_ := Aside0.mk (blk_below (g := gb289) (o := .cells #[.slice Ao10 t284.length co10, .string t287] 30 (0, 0)) tk hb)
                  have n7_ := Aside0.mk (blk_below (g := gb290) (o := .cells #[.slice Ao10 t284.length co10, .string t287] 24 (0, 0)) tk hb)
                  have n8_ := Aside0.mk (blk_below (g := gb311) (o := .cells #[.slice Ao61 t306.length co61, .string t309] 30 (0, 0)) tk hb)
                  have n9_ := Aside0.mk (blk_below (g := gb312) (o := .cells #[.slice Ao61 t306.length co61, .string t309] 24 (0, 0)) tk hb)
                  have n10_ := Aside0.mk (below_step tb hb)
                  clear HO_1
                  clear HO_2
                  clear HO_290000
                  clear HO_291000
                  clear HO308
                  clear HO318
                  clear BK289
                  clear BK290
                  clear BK311
                  clear BK312
                  clear HB
                  have HO_1 := n0_
                  have HO_2 := n1_
                  have HO_290000 := n2_
                  have HO_291000 := n3_
                  have HO308 := n4_
                  have HO318 := n5_
                  have BK289 := n6_
                  have BK290 := n7_
                  have BK311 := n8_
                  have BK312 := n9_
                  have HB := n10_
                  clear n0_ n1_ n2_ n3_ n4_ n5_ n6_ n7_ n8_ n9_ n10_
                  (try clear hb)
                  (try clear hb2)
                  (try clear hk)
                  (try clear hi)
                  refine hK.out _ _ ⟨(blk_cell BK290.out 0).trans rfl, (blk_cell BK290.out 1).trans rfl, (blk_cell BK312.out 0).trans rfl, (blk_cell BK312.out 1).trans rfl, HS4_, HS5_⟩ (fun hHeld => ?_)
                  clear hK K
                  refine norm_ (a' := ?_) ?_ ?_
                  rotate_left
                  · show Act.put _ (some 106) _ = _
                    simp only [Act.put, List.setIfInBounds_toArray, List.set_cons_zero, List.set_cons_succ, i64_w, i32_w]
                    rfl
                  refine pure_ (i := 18) (N := some 107) (v := ?_) (a' := ?_) #[true, true, true, true, true, true, true, true, true, true, true, true, true, true, true, true, true, true, true, false] rfl rfl (any_of HT_.out (by kernel_rfl)) (fun _ _ _ h => h) (Or.inl ⟨by rfl, ?_⟩) ?_ ?_
                  rotate_left
                  · intro w'
                    go_simp
                    with_reducible rfl
                  rotate_left
                  · simp only [Act.put, List.setIfInBounds_toArray, List.set_cons_zero, List.set_cons_succ, i64_w, i32_w]
                    rfl
                  refine pure_ (i := 19) (N := some 108) (v := ?_) (a' := ?_) #[true, true, true, true, true, true, true, true, true, true, true, true, true, true, true, true, true, true, true, true] rfl rfl (any_of HT_.out (by kernel_rfl)) (fun _ _ _ h => h) (Or.inl ⟨by rfl, ?_⟩) ?_ ?_
                  rotate_left
                  · intro w'
                    go_simp
                    with_reducible rfl
                  rotate_left
                  · simp only [Act.put, List.setIfInBounds_toArray, List.set_cons_zero, List.set_cons_succ, i64_w, i32_w]
                    rfl
                  refine done_ (done_of HT_.out (by kernel_rfl)) ?_
                  try go_wp2
                  go_roundg k4
                  case measure => have := HK1.out; have := HJ5.out; have := HJ43.out; have := HK4.out; omega
                  case rel => exact ⟨(wrap64 (x7_4 + 1)), (by first | rfl | (simp; done) | (simp [*]; done)), H', ⟨by have := HK1.out; have := HJ5.out; have := HJ43.out; have := HK4.out; omega⟩, ⟨by (with_reducible repeat (first | apply Kd.R_alloc | apply Kd.R_drewN | apply Kd.R_drew)); exact HO_1.out⟩, ⟨by (with_reducible repeat (first | apply Kd.R_alloc | apply Kd.R_drewN | apply Kd.R_drew)); exact HO_2.out⟩, ⟨by (with_reducible repeat (first | apply Kd.R_alloc | apply Kd.R_drewN | apply Kd.R_drew)); exact Kd.R_mono HO_290000.out (fun _ hk => trivial)⟩, ⟨by (with_reducible repeat (first | apply Kd.R_alloc | apply Kd.R_drewN | apply Kd.R_drew)); exact Kd.R_mono HO_291000.out (fun _ hk => trivial)⟩, ⟨by (with_reducible repeat (first | refine blk_drewN ?_ _ | refine blk_drew ?_ | refine blk_alloc ?_ _)); exact BK289.out⟩, ⟨by (with_reducible repeat (first | refine blk_drewN ?_ _ | refine blk_drew ?_ | refine blk_alloc ?_ _)); exact BK290.out⟩, ⟨tb⟩⟩
end Go.Proofs.YtnbmdecehlljcaaGreatDoor.PVer
