/- Words that stand for a long proof that the print says again and again (their proofs are found at the place of use). -/
import Derived.Test.YtnbmdecehlljcaaGreatDoorWMore
namespace Go.Proofs.YtnbmdecehlljcaaGreatDoorW.PrintMore
open Go.RowKit Go.Proofs.YtnbmdecehlljcaaGreatDoorW.PrintWords Go.Proofs.YtnbmdecehlljcaaGreatDoorW.PrintLast
theorem tb {P : Prop} (h : P := by repeat (first | (with_reducible first | exact HB.out | apply below_alloc | apply pw_below_drewN | apply below_drew1 | refine below_set ?_ (Aside0.out (by assumption))) | exact HB.out)) : P := h
theorem tk {P : Prop} (h : P := by (with_reducible repeat (first | refine blk_drewN ?_ _ | refine blk_drew ?_ | refine blk_alloc ?_ _)); exact Aside0.out (by assumption)) : P := h
theorem pR {P Q : Prop} (h : P) (g : P → Q := by intro h_; (with_reducible repeat (first | apply Kd.R_alloc | apply Kd.R_drewN | apply Kd.R_drew)); exact h_) : Q := g h
theorem pS {P Q : Prop} (h : P) (g : P → Q := by intro h_; (with_reducible repeat (first | apply Kd.S_alloc | apply Kd.S_drewN | apply Kd.S_drew)); exact h_) : Q := g h
theorem pC {P Q : Prop} (h : P) (g : P → Q := by intro h_; repeat (first | exact h_ | (with_reducible refine Kd.C_alloc ?_ _) | (with_reducible refine Kd.C_drewN ?_ _) | (with_reducible refine Kd.C_drew ?_))) : Q := g h
theorem bR {α : Type} {d : Kd α} {e : TypeId} {W w1 : World} {base : Nat} {ok : Nat → Prop} {v : Value} {xs : List α} {P : Prop} (h : Aside0 P) (hb : Below W.heap.size W w1) (g : P → Kd.R d e W base ok v xs := by intro h_; (with_reducible repeat (first | apply Kd.R_alloc | apply Kd.R_drewN | apply Kd.R_drew)); exact h_) : Aside0 (Kd.R d e w1 base ok v xs) := ⟨Kd.R_below (g h.out) hb⟩
theorem bS {α : Type} {d : Kd α} {e : TypeId} {W w1 : World} {base : Nat} {ok : Nat → Prop} {v : Value} {xs : List α} {P : Prop} (h : Aside0 P) (hb : Below W.heap.size W w1) (g : P → Kd.S d e W base ok v xs := by intro h_; (with_reducible repeat (first | apply Kd.S_alloc | apply Kd.S_drewN | apply Kd.S_drew)); exact h_) : Aside0 (Kd.S d e w1 base ok v xs) := ⟨Kd.S_below (g h.out) hb⟩
theorem gl {P : Prop} (h : P := by (try simp only [List.map_toArray, List.map_cons, List.map_nil]); first | done | rfl | (simp only [List.length_drop, List.length_take]; rfl)) : P := h
theorem rf {P : Prop} (h : P := by first | rfl | (simp; done) | (simp [*]; done)) : P := h
theorem da {p : Prop} [Decidable p] (h : decide p = true := by first | (with_reducible assumption) | assumption) : p := of_decide_eq_true h
end Go.Proofs.YtnbmdecehlljcaaGreatDoorW.PrintMore
