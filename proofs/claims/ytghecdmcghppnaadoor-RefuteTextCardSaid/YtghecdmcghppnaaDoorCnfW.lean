/- What the cnf package's functions answer, in the form of the printed texts; SameInts; the chapter's examples. -/
import Derived.Test.YtghecdmcghppnaaDoorCnfF
namespace Go.Proofs.YtghecdmcghppnaaDoor
open Go.RowKit Go.Proofs.YtghecdmcghppnaaDoorW.PrintWords Go.Proofs.YtghecdmcghppnaaDoorW.PrintMore
set_option linter.unusedVariables false
set_option linter.unusedSimpArgs false
def cnf_Check.f (a : Int) (l : List (List Int)) : Option Int := if total l < 1152921504606846976 then some (checkZ a l) else none
theorem cnf_Check.calls (a0_0 : Int) (A0_1 : Option Addr) (c0_1 : Nat) (l0_1 : List (List Int)) (r : Int) (w : World) (hr0_1 : Kd.C (Kd.slice 3 (Kd.int .i64)) w A0_1 l0_1.length l0_1) (hc0_1 : l0_1.length ≤ c0_1) (h : cnf_Check.f a0_0 l0_1 = some r) :
    Calls Tryd.prog 19 #[.agg #[.int .i64 a0_0, .slice A0_1 l0_1.length c0_1]] w fun e w' => e = .returned (.int .i64 r) ∧ Below w.heap.size w w' := by
  unfold cnf_Check.f at h
  split at h
  · rename_i ht
    obtain rfl := Option.some.inj h
    exact cnf_Check_any a0_0 A0_1 c0_1 l0_1 w hr0_1 ht
  · cases h
set_option maxRecDepth 100000 in
set_option maxHeartbeats 4000000 in
theorem cnf_Unit_refused (n : Int) (A : Option Addr) (c : Nat) (l : List (List Int)) (M : Option Addr) (d : Nat) (m : List Int) (w : World) (hr : Kd.C (Kd.slice 3 (Kd.int .i64)) w A l.length l) (hm : Kd.C (Kd.int .i64) w M m.length m) (ht : total l < 1152921504606846976) (hz : checkZ n l ≠ 0 ∨ allB m n = false) :
    Calls Tryd.prog 22 #[.agg #[.int .i64 n, .slice A l.length c], .slice M m.length d] w fun e w' => ∃ v0_ : Value, e = .returned (.tuple #[v0_, .bool true]) ∧ Kd.R (Kd.int .i64) 3 w' w.heap.size (fun _ => True) v0_ [] ∧ Below w.heap.size w w' := by
  have HCHK := Aside0.mk (fun W (hb : Below w.heap.size w W) => cnf_Check_any n A c l W (Kd.C_below hr hb) ht)
  have HAL := Aside0.mk (fun W (hb : Below w.heap.size w W) => cnf_all_any M d m n W (Kd.C_below hm hb))
  have A1 := Aside0.mk (show Below w.heap.size w (w.alloc (Obj.cells #[Value.int IntKind.i64 n, Value.slice A l.length c] 24)) from (Below.refl _ w).alloc (Nat.le_refl _) _)
  by_cases h0 : checkZ n l = 0
  · have h1 := hz.resolve_left (by simpa using h0)
    rw [h1] at HAL
    rw [h0] at HCHK
    clear hr hm ht hz h0 h1
    go_enter Tryd.func22, Tryd.ntmps22
    go_wp2
    go_step3
    go_wp2_with (first | (go_at_call 19; refine ((HCHK.out) _ A1.out).mono ?_; rintro e w' ⟨rfl, hb⟩; have hc0 := hb.cell (p := ⟨w.heap.size, 0, none⟩) (by simp); have hs := hb.size; simp at hc0 hs; have HB := Aside0.mk hb; clear hb) | (go_at_call 41; refine ((HAL.out) _ (A1.out.trans (HB.out.mono A1.out.size))).mono ?_; rintro e w2 ⟨rfl, hb⟩; have HB2 := Aside0.mk hb; clear hb))
    try rw [Exit.noGoto_ret]
    go_ret2
    exact ⟨_, rfl, Kd.R_nil _ _ _ _ _, (A1.out.trans (HB.out.mono A1.out.size)).trans (HB2.out.mono (Nat.le_trans A1.out.size HB.out.size))⟩
  · have b0 : (checkZ n l != 0) = true := by simpa using h0
    generalize checkZ n l = z at *
    clear hr hm ht hz h0
    go_enter Tryd.func22, Tryd.ntmps22
    go_wp2
    go_step3
    go_wp2_with (go_at_call 19; refine ((HCHK.out) _ A1.out).mono ?_; rintro e w' ⟨rfl, hb⟩; have HB := Aside0.mk hb; clear hb)
    try rw [Exit.noGoto_ret]
    go_ret2
    exact ⟨_, rfl, Kd.R_nil _ _ _ _ _, A1.out.trans (HB.out.mono A1.out.size)⟩
def unitB (n : Int) (l : List (List Int)) (m : List Int) : List Int × Bool := if checkZ n l = 0 ∧ allB m n = true then unitL n.toNat l m else ([], true)
def cnf_Unit.f (n : Int) (l : List (List Int)) (m : List Int) : Option (List Int × Bool) := if total l < 1152921504606846976 ∧ m.length ≤ 100000000 then some (unitB n l m) else none
theorem cnf_Unit.calls (a0_0 : Int) (A0_1 : Option Addr) (c0_1 : Nat) (l0_1 : List (List Int)) (A1 : Option Addr) (c1 : Nat) (l1 : List Int) (r1 : List Int) (r2 : Bool) (w : World) (hr0_1 : Kd.C (Kd.slice 3 (Kd.int .i64)) w A0_1 l0_1.length l0_1) (hc0_1 : l0_1.length ≤ c0_1) (hr1 : Kd.C (Kd.int .i64) w A1 l1.length l1) (hc1 : l1.length ≤ c1) (h : cnf_Unit.f a0_0 l0_1 l1 = some (r1, r2)) :
    Calls Tryd.prog 22 #[.agg #[.int .i64 a0_0, .slice A0_1 l0_1.length c0_1], .slice A1 l1.length c1] w fun e w' => ∃ v0_ : Value, e = .returned (.tuple #[v0_, .bool r2]) ∧ Kd.R (Kd.int .i64) 3 w' w.heap.size (fun _ => True) v0_ r1 ∧ Below w.heap.size w w' := by
  unfold cnf_Unit.f at h
  split at h
  · rename_i ht
    have h' := Option.some.inj h
    unfold unitB at h'
    split at h'
    · rename_i hz
      have h0 := checkZ_zero hz.1
      obtain ⟨n, rfl⟩ := Int.eq_ofNat_of_zero_le h0.1
      rw [Int.toNat_natCast] at h'
      have e1 : r1 = (unitL n l0_1 l1).1 := by rw [h']
      have e2 : r2 = (unitL n l0_1 l1).2 := by rw [h']
      subst e1 e2
      exact cnf_Unit_any n A0_1 c0_1 l0_1 A1 c1 l1 w hr0_1 hr1 ht.1 hz.1 hz.2 ht.2
    · rename_i hz
      obtain ⟨rfl, rfl⟩ := Prod.mk.inj h'
      refine cnf_Unit_refused a0_0 A0_1 c0_1 l0_1 A1 c1 l1 w hr0_1 hr1 ht.1 ?_
      by_cases h0 : checkZ a0_0 l0_1 = 0
      · right
        cases ha : allB l1 a0_0 with
        | true => exact absurd ⟨h0, ha⟩ hz
        | false => rfl
      · exact .inl h0
  · cases h
end Go.Proofs.YtghecdmcghppnaaDoor
