/- The reference's Parse: the walk. -/
import Derived.Test.YtghnlhadohnenaaGreatDoorNumU
namespace Go.Proofs.YtghnlhadohnenaaGreatDoor
set_option exponentiation.threshold 3000
open Go.Shelf Go.RowKit Go.Proofs.YtghnlhadohnenaaGreatDoorW.PrintWords Go.Proofs.YtghnlhadohnenaaGreatDoorW.PrintLast Go.Proofs.YtghnlhadohnenaaGreatDoorW.PrintMore
set_option linter.unusedVariables false
set_option linter.unusedSimpArgs false
/-- What Parse answers: a text's number, or that it is none's. -/
def ParseP (s : List UInt8) (r : Nat) (f : Int) : Prop := (f = 0 ∧ r < 18446744073709551616 ∧ textW r = s) ∨ (f = 210 ∧ r = 0 ∧ ∀ y, y < 18446744073709551616 → textW y ≠ s)
def ParseE (s : ByteArray) (w : World) (e : Ending) (w' : World) : Prop := ∃ r f, e = .returned (.tuple #[.float .f64 r, .int .i64 f]) ∧ ParseP s.data.toList r f ∧ Below w.heap.size w w'
theorem textW_len (x : Nat) (hx : x < 18446744073709551616) : (textW x).length ≤ 51 := by
  unfold textW
  cases hn : nanB x with
  | true => simp
  | false =>
    have := textR_len (rk x) (rk_top hn)
    simp only [Bool.false_eq_true, if_false]
    split
    · rw [List.length_cons]; omega
    · omega
theorem parse_no {s : List UInt8} {r : Nat} (hV : ValW s r) (h : textW r ≠ s) : ∀ y, y < 18446744073709551616 → textW y ≠ s := by
  intro y hy he
  rcases hV.2 y hy he with e | ⟨h1, h2⟩
  · exact h (by rw [e]; exact he)
  · apply h
    unfold textW at *
    rw [h1]
    rw [h2] at he
    exact he
set_option maxHeartbeats 1000000 in
set_option maxRecDepth 100000 in
theorem refParse_any (s : ByteArray) (w : World) (hs : s.size ≤ 100000) : Calls Tryz.prog 30 #[.string s] w (ParseE s w) := by
  have hsl := Lib.size_eq s
  by_cases h60 : 60 < s.size
  · have HP : Aside0 (ParseP s.data.toList 0 210) := Aside0.mk (.inr ⟨rfl, rfl, fun y hy h => by
      have := textW_len y hy
      rw [h] at this
      omega⟩)
    clear hsl
    go_enter Tryz.func30, Tryz.ntmps30
    go_wp2
    go_ret2
    exact ⟨0, 210, rfl, HP.out, Below.refl _ _⟩
  · have HV := Aside0.mk (value_any s.size s rfl hs w)
    clear hsl
    go_enter Tryz.func30, Tryz.ntmps30
    go_wp2_with (first | (go_at_call 57; (with_reducible refine (HV.out).mono ?_); rintro e w1 ⟨r, rfl, hv, hb⟩; have HW := Aside0.mk hv; have hr := hv.1; have HB1 := Aside0.mk hb; clear hb hv) | (go_at_call 15; (with_reducible refine (refPrint_any _ hr _).mono ?_); rintro e w2 ⟨rfl, hb⟩; have HB2 := Aside0.mk hb; clear hb))
    · have hne : (!textW r == s.toList) = true := by assumption
      go_ret2
      refine ⟨0, 210, rfl, .inr ⟨rfl, rfl, parse_no HW.out ?_⟩, HB1.out.trans (HB2.out.mono HB1.out.size)⟩
      rw [← Lib.toList_data]
      simpa using hne
    · have hne : (!textW r == s.toList) = false := by assumption
      go_ret2
      refine ⟨r, 0, rfl, .inl ⟨rfl, hr, ?_⟩, HB1.out.trans (HB2.out.mono HB1.out.size)⟩
      rw [← Lib.toList_data]
      simpa using hne
end Go.Proofs.YtghnlhadohnenaaGreatDoor
