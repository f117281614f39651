/- What the rows' listed variables give the walks; a world in which they lie. -/
import Derived.Test.YtghnlhadohnenaaGreatDoorCards
import Derived.Test.YtghnlhadohnenaaGreatDoorTie
import Derived.Test.YtghnlhadohnenaaGreatDoorVerT
import Derived.Test.YtghnlhadohnenaaGreatDoorNumK
import Derived.WalkKit
import Derived.ProofKit
import Derived.OpenShut
import Derived.Deep.DeepHandedRow
import Derived.Lib.LaidTab
import Derived.Lay
import Derived.Stop.LaidErr
import Derived.Shelf.Vars
import Derived.MakeChecks
import Derived.SevenTiedAt
namespace Go.Proofs.YtghnlhadohnenaaGreatDoor
set_option exponentiation.threshold 3000
open Go.ChangeShapes Go.WideShapes Go.ChangeAt Go.RowKit
set_option linter.unusedVariables false
noncomputable def laidV : List (String × DataW Unit) := Rows.numbersKnownRow.laid
theorem own : ownKnob Tryz.prog.godebug = none := by kernel_rfl
theorem laidOut : laidOutB Tryz.prog = true := by kernel_rfl
theorem gPow : Tryz.prog.globalNamed "internal/strconv.uint64pow10" = some 2 := by kernel_rfl
theorem gPowType : (Tryz.prog.globals[2]?).map (·.type) = some 101 := by kernel_rfl
theorem gRan : Tryz.prog.globalNamed "strconv.ErrRange" = some 5 := by kernel_rfl
theorem gRanType : (Tryz.prog.globals[5]?).map (·.type) = some 58 := by kernel_rfl
theorem gSyn : Tryz.prog.globalNamed "strconv.ErrSyntax" = some 4 := by kernel_rfl
theorem gSynType : (Tryz.prog.globals[4]?).map (·.type) = some 58 := by kernel_rfl
theorem cellsArr : Tryz.prog.cellsOf 101 = 20 := by kernel_rfl
theorem cellsU64 : Tryz.prog.cellsOf 47 = 1 := by kernel_rfl
theorem cellsES : Tryz.prog.cellsOf 116 = 1 := by kernel_rfl
theorem cellsStr : Tryz.prog.cellsOf 9 = 1 := by kernel_rfl
theorem starES : "*" ++ "errors.errorString" = "*errors.errorString" := by decide
theorem rowES (u : TypeId) (h : Tryz.prog.typeName? 3 u = some "*errors.errorString") : u = 114 :=
  typeName_ptr_named (nm := "errors.errorString") (by rw [starES]; kernel_rfl) (by kernel_rfl) (by decide) u (by rw [starES]; exact h)
theorem laidV_plain (W : World) : laidMetH Tryz.prog laidV W = laidMet Tryz.prog laidV W := MakeChecks.laidMetH_plain _ _ _ (by kernel_rfl)
theorem vtabs_of {W : World} (hL : laidMetH Tryz.prog laidV W) (hS : W.ShapedOpen Tryz.prog) : VTabs W := by
  rw [laidV_plain] at hL
  have h2 := hL.tail.tail
  have h4 := h2.tail
  have h5 := h4.tail
  refine ⟨Go.Proofs.cell_of_shapedOpen_int (zero := #[.int .i64 0]) (t := 3) hS (of_decide_eq_true (by kernel_rfl)) (by kernel_rfl) rfl (by kernel_rfl) (by kernel_rfl) Tryz.underlying3, ?_, ?_, ?_⟩
  · obtain ⟨a1, s1, hv1, _⟩ := laid_sentinel h5 gSyn gSynType Tryz.underlying58 rowES Tryz.underlying114 Tryz.underlying116 rfl rfl Tryz.underlying9 cellsES cellsStr
    exact ⟨_, by simpa using World.var?_cell gSyn hv1 0, .inr ⟨_, _, rfl⟩⟩
  · obtain ⟨a1, s1, hv1, _⟩ := laid_sentinel h4 gRan gRanType Tryz.underlying58 rowES Tryz.underlying114 Tryz.underlying116 rfl rfl Tryz.underlying9 cellsES cellsStr
    exact ⟨_, by simpa using World.var?_cell gRan hv1 0, .inr ⟨_, _, rfl⟩⟩
  · exact Lib.tabIs_of_head (zs := Lib.pow10Tab) gPow gPowType Tryz.underlying101 Tryz.underlying47 cellsU64 cellsArr h2
theorem gDb : Tryz.prog.globalNamed "math/bits.deBruijn64tab" = some 1 := by kernel_rfl
theorem gDbType : (Tryz.prog.globals[1]?).map (·.type) = some 84 := by kernel_rfl
theorem cellsDb : Tryz.prog.cellsOf 84 = 64 := by kernel_rfl
theorem cellsU8 : Tryz.prog.cellsOf 5 = 1 := by kernel_rfl
theorem ntabs_of {W : World} (hL : laidMetH Tryz.prog laidV W) (hS : W.ShapedOpen Tryz.prog) : NTabs W := by
  refine ⟨vtabs_of hL hS, fun i hi => ?_⟩
  rw [laidV_plain] at hL
  have h1 := hL.tail
  have hT := Lib.tabIs_of_head (zs := Lib.deBruijn64tab.map Int.ofNat) gDb gDbType Tryz.underlying84 Tryz.underlying5 cellsU8 cellsDb h1
  have := World.var?_cell gDb hT i
  rw [this]
  have hl : i < Lib.deBruijn64tab.length := hi
  simp [List.getElem?_eq_getElem hl]
noncomputable def laidWorld (os : Os) : World := World.laidAll Tryz.prog os laidV
theorem laid_met (os : Os) (args : Array Value) : laidMetH Tryz.prog laidV ((laidWorld os).forCall (fun _ _ => 0) ⟨#[], args, []⟩).memory := by
  rw [laidV_plain]
  exact laidMet_laidAll _ (by kernel_rfl) (by kernel_rfl)
theorem laid_shaped (os : Os) (args : Array Value) : ((laidWorld os).forCall (fun _ _ => 0) ⟨#[], args, []⟩).Shaped Tryz.prog := World.shaped_of_ZipB (by kernel_rfl) (by kernel_rfl)
/-- A start that fits, at a function whose arguments may be nought. -/
theorem witness_laid {H : Type} {enc : TypeId × Value → H} (os : Os) {f : FuncId} {fn : Func} {s : OpenSpec} (args : Array Value)
    (hok : Input.okWideB Tryz.prog ((laidWorld os).forCall (fun _ _ => 0) ⟨#[], args, []⟩) f ⟨#[], args, []⟩ = true)
    (hx : (DataW.whole enc Tryz.prog ((laidWorld os).forCall (fun _ _ => 0) ⟨#[], args, []⟩).memory fn.params.toList s.vars false args.toList 8).isSome = true)
    (hk : ∀ k, s.cond = some k → False)
    (hsz : s.bare.sizedB enc Tryz.prog fn false ((laidWorld os).forCall (fun _ _ => 0) ⟨#[], args, []⟩).memory args 8 = true) :
    ∃ (w : World) (tape : Tape) (i : Input), w.os = os ∧ (w.forCall tape i).Shaped Tryz.checked.prog ∧ i.vars = [] ∧ Input.okWide Tryz.checked.prog (w.forCall tape i) .any w.heap.size f i ∧
      s.preRow enc Tryz.checked.prog fn [] false laidV (w.forCall tape i).memory i.args ∧ ({} : Assume).holds Tryz.checked.prog (lone (Frame.enter Tryz.checked.prog f i.args .normal) [] (w.forCall tape i)) := by
  obtain ⟨x, hx⟩ := Option.isSome_iff_exists.1 hx
  refine ⟨laidWorld os, fun _ _ => 0, ⟨#[], args, []⟩, World.laidAll_os _ _ _, laid_shaped os args, (Input.okWide_of_okWideB (base := 0) hok).1, (Input.okWide_of_okWideB hok).2, OpenSpec.preRow_of_cond 8 hx rfl (fun k h => (hk k h).elim) hsz (laid_met os args), ?_⟩
  simp only [Assume.holds]
  exact ⟨by simp, by simp, by simp, by simp, by simp⟩
end Go.Proofs.YtghnlhadohnenaaGreatDoor
