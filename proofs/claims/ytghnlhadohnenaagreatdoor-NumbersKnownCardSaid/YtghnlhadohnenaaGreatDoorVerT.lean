/- What the variables and tables hold that the code reads. -/
import Derived.Test.YtghnlhadohnenaaGreatDoorWMore
import Derived.Lib.Strings
import Derived.Lib.Walk
import Derived.Lib.AppendIntMem
import Derived.Lib.AtoiErrMem
import Derived.Test.YtghnlhadohnenaaGreatDoorProg
namespace Go.Proofs.YtghnlhadohnenaaGreatDoor
open Go.RowKit Go.Proofs.YtghnlhadohnenaaGreatDoorW.PrintWords Go.Proofs.YtghnlhadohnenaaGreatDoorW.PrintMore
/-- A store leaves every cell that was there (for the walk's simp: several stores to one cell). -/
theorem isSome_setCellV (w : World) (a b : Addr) (v : Value) : ((w.setCell a v).cell? b).isSome = (w.cell? b).isSome := by
  simp only [World.setCell, World.cell?, Array.getElem?_modify]
  by_cases hb : a.block = b.block
  · simp only [hb, if_true]
    cases hh : w.heap[b.block]? with
    | none => simp
    | some x =>
      cases x <;> simp
      cases b.spot with
      | some _ => simp
      | none =>
        cases a.spot with
        | some _ => simp
        | none =>
          simp
          rw [Bool.eq_iff_iff]
          simp
  · simp [hb]
/-- What the errors' variables hold. -/
def ErrCell (W : World) (g : Nat) : Prop := ∃ ev : Value, W.cell? ⟨g, 0, none⟩ = some ev ∧ (ev = .nilIface ∨ ∃ te pe, ev = .iface te pe)
theorem ErrCell.below {W W' : World} {g : Nat} (h : ErrCell W g) (hb : Below W.heap.size W W') : ErrCell W' g := by
  obtain ⟨ev, h1, h2⟩ := h
  exact ⟨ev, (hb.cell (show (⟨g, 0, none⟩ : Addr).block < W.heap.size from Lib.lt_of_cell h1)).trans h1, h2⟩
/-- What the tables and variables hold that the library reads. -/
structure VTabs (W : World) : Prop where
  ml : ∃ m : Int, W.cell? ⟨3, 0, none⟩ = some (.int .i64 m)
  es : ErrCell W 4
  er : ErrCell W 5
  p10 : Lib.TabIs Tryz.prog W "internal/strconv.uint64pow10" .u64 Lib.pow10Tab
theorem VTabs.below {W W' : World} (h : VTabs W) (hb : Below W.heap.size W W') : VTabs W' := by
  obtain ⟨m, hm⟩ := h.ml
  exact ⟨⟨m, pw_cell_below hb hm⟩, h.es.below hb, h.er.below hb, Lib.tabBelow_of_tabIs h.p10 W' hb⟩
end Go.Proofs.YtghnlhadohnenaaGreatDoor
