/- What the cnf package's functions answer, in the form of the printed texts; SameInts; the chapter's examples. -/
import Derived.Test.YtjghhdgebmoohaaCnfF
import Derived.Test.YtjghhdgebmoohaaCnfM
namespace Go.Proofs.Ytjghhdgebmoohaa
open Go.RowKit Go.Proofs.YtjghhdgebmoohaaW.PrintWords Go.Proofs.YtjghhdgebmoohaaW.PrintMore
set_option linter.unusedVariables false
set_option linter.unusedSimpArgs false
def cnf_Check.f (a : Int) (l : List (List Int)) : Option Int := if total l < 1152921504606846976 then some (checkZ a l) else none
theorem cnf_Check.calls (a0_0 : Int) (A0_1 : Option Addr) (c0_1 : Nat) (l0_1 : List (List Int)) (r : Int) (w : World) (hr0_1 : Kd.C (Kd.slice 3 (Kd.int .i64)) w A0_1 l0_1.length l0_1) (hc0_1 : l0_1.length ≤ c0_1) (h : cnf_Check.f a0_0 l0_1 = some r) :
    Calls Try.prog 17 #[.agg #[.int .i64 a0_0, .slice A0_1 l0_1.length c0_1]] w fun e w' => e = .returned (.int .i64 r) ∧ Below w.heap.size w w' := by
  unfold cnf_Check.f at h
  split at h
  · rename_i ht
    obtain rfl := Option.some.inj h
    exact cnf_Check_any a0_0 A0_1 c0_1 l0_1 w hr0_1 ht
  · cases h
def cnf_Holds.f (a : Int) (l : List (List Int)) (m : List Bool) : Option Bool := if total l < 1152921504606846976 then some (holdsB a l m) else none
theorem cnf_Holds.calls (a0_0 : Int) (A0_1 : Option Addr) (c0_1 : Nat) (l0_1 : List (List Int)) (A1 : Option Addr) (c1 : Nat) (l1 : List Bool) (r : Bool) (w : World) (hr0_1 : Kd.C (Kd.slice 3 (Kd.int .i64)) w A0_1 l0_1.length l0_1) (hc0_1 : l0_1.length ≤ c0_1) (hr1 : Kd.C Kd.bool w A1 l1.length l1) (hc1 : l1.length ≤ c1) (h : cnf_Holds.f a0_0 l0_1 l1 = some r) :
    Calls Try.prog 25 #[.agg #[.int .i64 a0_0, .slice A0_1 l0_1.length c0_1], .slice A1 l1.length c1] w fun e w' => e = .returned (.bool r) ∧ Below w.heap.size w w' := by
  unfold cnf_Holds.f at h
  split at h
  · rename_i ht
    obtain rfl := Option.some.inj h
    exact cnf_Holds_any a0_0 A0_1 c0_1 l0_1 A1 c1 l1 w hr0_1 hr1 ht
  · cases h
def cnf_Norm.f (c : List Int) : Option (List Int × Bool) := if c.length ≤ 1000000000 then some (normL c) else none
theorem cnf_Norm.calls (A0 : Option Addr) (c0 : Nat) (l0 : List Int) (r1 : List Int) (r2 : Bool) (w : World) (hr0 : Kd.C (Kd.int .i64) w A0 l0.length l0) (hc0 : l0.length ≤ c0) (h : cnf_Norm.f l0 = some (r1, r2)) :
    Calls Try.prog 22 #[.slice A0 l0.length c0] w fun e w' => ∃ v0_ : Value, e = .returned (.tuple #[v0_, .bool r2]) ∧ Kd.R (Kd.int .i64) 3 w' w.heap.size (fun _ => True) v0_ r1 ∧ Below w.heap.size w w' := by
  unfold cnf_Norm.f at h
  split at h
  · rename_i ht
    have h' := Option.some.inj h
    have e1 : r1 = (normL l0).1 := by rw [h']
    have e2 : r2 = (normL l0).2 := by rw [h']
    subst e1 e2
    cases ha : allB l0 100000 with
    | true => exact cnf_Norm_yes A0 c0 l0 w hr0 ha ht
    | false => exact cnf_Norm_no A0 c0 l0 w hr0 ha
  · cases h
set_option maxRecDepth 100000 in
set_option maxHeartbeats 4000000 in
theorem cnf_Unit_refused (n : Int) (A : Option Addr) (c : Nat) (l : List (List Int)) (M : Option Addr) (d : Nat) (m : List Int) (w : World) (hr : Kd.C (Kd.slice 3 (Kd.int .i64)) w A l.length l) (hm : Kd.C (Kd.int .i64) w M m.length m) (ht : total l < 1152921504606846976) (hz : checkZ n l ≠ 0 ∨ allB m n = false) :
    Calls Try.prog 27 #[.agg #[.int .i64 n, .slice A l.length c], .slice M m.length d] w fun e w' => ∃ v0_ : Value, e = .returned (.tuple #[v0_, .bool true]) ∧ Kd.R (Kd.int .i64) 3 w' w.heap.size (fun _ => True) v0_ [] ∧ Below w.heap.size w w' := by
  have HCHK := Aside0.mk (fun W (hb : Below w.heap.size w W) => cnf_Check_any n A c l W (Kd.C_below hr hb) ht)
  have HAL := Aside0.mk (fun W (hb : Below w.heap.size w W) => cnf_all_any M d m n W (Kd.C_below hm hb))
  have A1 := Aside0.mk (show Below w.heap.size w (w.alloc (Obj.cells #[Value.int IntKind.i64 n, Value.slice A l.length c] 24)) from (Below.refl _ w).alloc (Nat.le_refl _) _)
  by_cases h0 : checkZ n l = 0
  · have h1 := hz.resolve_left (by simpa using h0)
    rw [h1] at HAL
    rw [h0] at HCHK
    clear hr hm ht hz h0 h1
    go_enter Try.func27, Try.ntmps27
    go_wp2
    go_step3
    go_wp2_with (first | (go_at_call 17; refine ((HCHK.out) _ A1.out).mono ?_; rintro e w' ⟨rfl, hb⟩; have hc0 := hb.cell (p := ⟨w.heap.size, 0, none⟩) (by simp); have hs := hb.size; simp at hc0 hs; have HB := Aside0.mk hb; clear hb) | (go_at_call 40; refine ((HAL.out) _ (A1.out.trans (HB.out.mono A1.out.size))).mono ?_; rintro e w2 ⟨rfl, hb⟩; have HB2 := Aside0.mk hb; clear hb))
    try rw [Exit.noGoto_ret]
    go_ret2
    exact ⟨_, rfl, Kd.R_nil _ _ _ _ _, (A1.out.trans (HB.out.mono A1.out.size)).trans (HB2.out.mono (Nat.le_trans A1.out.size HB.out.size))⟩
  · have b0 : (checkZ n l != 0) = true := by simpa using h0
    generalize checkZ n l = z at *
    clear hr hm ht hz h0
    go_enter Try.func27, Try.ntmps27
    go_wp2
    go_step3
    go_wp2_with (go_at_call 17; refine ((HCHK.out) _ A1.out).mono ?_; rintro e w' ⟨rfl, hb⟩; have HB := Aside0.mk hb; clear hb)
    try rw [Exit.noGoto_ret]
    go_ret2
    exact ⟨_, rfl, Kd.R_nil _ _ _ _ _, A1.out.trans (HB.out.mono A1.out.size)⟩
def unitB (n : Int) (l : List (List Int)) (m : List Int) : List Int × Bool := if checkZ n l = 0 ∧ allB m n = true then unitL n.toNat l m else ([], true)
def cnf_Unit.f (n : Int) (l : List (List Int)) (m : List Int) : Option (List Int × Bool) := if total l < 1152921504606846976 ∧ m.length ≤ 100000000 then some (unitB n l m) else none
theorem cnf_Unit.calls (a0_0 : Int) (A0_1 : Option Addr) (c0_1 : Nat) (l0_1 : List (List Int)) (A1 : Option Addr) (c1 : Nat) (l1 : List Int) (r1 : List Int) (r2 : Bool) (w : World) (hr0_1 : Kd.C (Kd.slice 3 (Kd.int .i64)) w A0_1 l0_1.length l0_1) (hc0_1 : l0_1.length ≤ c0_1) (hr1 : Kd.C (Kd.int .i64) w A1 l1.length l1) (hc1 : l1.length ≤ c1) (h : cnf_Unit.f a0_0 l0_1 l1 = some (r1, r2)) :
    Calls Try.prog 27 #[.agg #[.int .i64 a0_0, .slice A0_1 l0_1.length c0_1], .slice A1 l1.length c1] w fun e w' => ∃ v0_ : Value, e = .returned (.tuple #[v0_, .bool r2]) ∧ Kd.R (Kd.int .i64) 3 w' w.heap.size (fun _ => True) v0_ r1 ∧ Below w.heap.size w w' := by
  unfold cnf_Unit.f at h
  split at h
  · rename_i ht
    have h' := Option.some.inj h
    unfold unitB at h'
    split at h'
    · rename_i hz
      have h0 := checkZ_zero hz.1
      obtain ⟨n, rfl⟩ := Int.eq_ofNat_of_zero_le h0.1
      rw [Int.toNat_natCast] at h'
      have e1 : r1 = (unitL n l0_1 l1).1 := by rw [h']
      have e2 : r2 = (unitL n l0_1 l1).2 := by rw [h']
      subst e1 e2
      exact cnf_Unit_any n A0_1 c0_1 l0_1 A1 c1 l1 w hr0_1 hr1 ht.1 hz.1 hz.2 ht.2
    · rename_i hz
      obtain ⟨rfl, rfl⟩ := Prod.mk.inj h'
      refine cnf_Unit_refused a0_0 A0_1 c0_1 l0_1 A1 c1 l1 w hr0_1 hr1 ht.1 ?_
      by_cases h0 : checkZ a0_0 l0_1 = 0
      · right
        cases ha : allB l1 a0_0 with
        | true => exact absurd ⟨h0, ha⟩ hz
        | false => rfl
      · exact .inl h0
  · cases h
set_option maxHeartbeats 2000000 in
theorem SameInts_any (A : Option Addr) (c : Nat) (l : List Int) (B : Option Addr) (d : Nat) (m : List Int) (w : World) (hl : Kd.C (Kd.int .i64) w A l.length l) (hm : Kd.C (Kd.int .i64) w B m.length m) :
    Calls Try.prog 24 #[.slice A l.length c, .slice B m.length d] w fun e w' => e = .returned (.bool (decide (l = m))) ∧ Drawn0 w w' := by
  have HA := Aside0.mk (rowPlaces_ints hl)
  have HB := Aside0.mk (rowPlaces_ints hm)
  have h1 : l.length ≤ 9223372036854775807 := hl.2.1
  have h2 : m.length ≤ 9223372036854775807 := hm.2.1
  clear hl hm
  by_cases hlen : l.length = m.length
  · have b1 : ((l.length : Int) != (m.length : Int)) = false := by simp [hlen]
    have HL := Aside0.mk hlen
    clear hlen
    go_enter Try.func24, Try.ntmps24
    go_wp2
    go_loopg [5] l.length (fun gg s5 wr => ∃ kk : Nat, kk ≤ l.length ∧ l.length - kk ≤ gg ∧ s5 = .int .i64 kk ∧ Aside0 (Drawn0 w wr) ∧ Aside0 (∀ j, j < kk → l.getD j 0 = m.getD j 0))
    case atStart => exact ⟨0, Nat.zero_le _, by omega, rfl, ⟨Drawn0.refl _⟩, ⟨fun j hj => absurd hj (Nat.not_lt_zero _)⟩⟩
    case round =>
      obtain ⟨kk, hkk, hg, rfl, HD, HN⟩ := hrel
      by_cases hlt : kk < l.length
      · have hlt2 : kk < m.length := by have := HL.out; omega
        obtain ⟨ad, rfl, hc⟩ := HA.out (by omega)
        obtain ⟨bd, rfl, hd⟩ := HB.out (by omega)
        have hcA : wr.cell? (ad.add kk) = some (.int .i64 (l.getD kk 0)) := pw_cell_below HD.out.below (hc kk hlt)
        have hcB : wr.cell? (bd.add kk) = some (.int .i64 (m.getD kk 0)) := pw_cell_below HD.out.below (hd kk hlt2)
        obtain ⟨x, hx⟩ : ∃ x, l.getD kk 0 = x := ⟨_, rfl⟩
        obtain ⟨y, hy⟩ : ∃ y, m.getD kk 0 = y := ⟨_, rfl⟩
        rw [hx] at hcA
        rw [hy] at hcB
        have HX := Aside0.mk hx
        have HY := Aside0.mk hy
        have k1 : (kk : Int) < (l.length : Int) := by omega
        have k2 : (kk : Int) < (m.length : Int) := by omega
        clear hc hd hx hy
        by_cases heq : x = y
        · have b2 : (x != y) = false := by simp [heq]
          have HN2 : Aside0 (∀ j, j < kk + 1 → l.getD j 0 = m.getD j 0) := ⟨fun j q => by
            by_cases e : j = kk
            · subst e; rw [HX.out, HY.out]; exact heq
            · exact HN.out j (by omega)⟩
          clear heq
          go_wp2
          go_quiet (fail)
          go_wp2
          go_roundg (l.length - (kk + 1))
          case measure => omega
          case rel => exact ⟨kk + 1, by omega, by omega, by go_num, ⟨HD.out.step _⟩, HN2⟩
        · have b2 : (x != y) = true := by simp [heq]
          have HF : Aside0 (decide (l = m) = false) := ⟨decide_eq_false (fun e => heq (by rw [← HX.out, ← HY.out, e]))⟩
          clear heq
          go_wp2
          go_quiet (fail)
          go_wp2
          go_ret
          exact ⟨by rw [HF.out]; rfl, HD.out.step _⟩
      · have HF : Aside0 (decide (l = m) = true) := ⟨decide_eq_true (List.ext_getElem HL.out (fun i q1 q2 => by have := HN.out i (by omega); simpa [q1, q2] using this))⟩
        go_wp2
        go_ret
        exact ⟨by rw [HF.out]; rfl, HD.out⟩
  · have b1 : ((l.length : Int) != (m.length : Int)) = true := by simp; omega
    have HF : Aside0 (decide (l = m) = false) := ⟨decide_eq_false (fun e => hlen (by rw [e]))⟩
    clear hlen
    go_enter Try.func24, Try.ntmps24
    go_wp2
    go_ret
    exact ⟨by rw [HF.out]; rfl, Drawn0.refl _⟩
end Go.Proofs.Ytjghhdgebmoohaa
