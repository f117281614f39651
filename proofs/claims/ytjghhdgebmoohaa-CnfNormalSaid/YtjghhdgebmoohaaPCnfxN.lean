/- The law CnfNormal, walked by hand out of the contracts of Check, Norm, Holds and of the examples. -/
import Derived.Test.YtjghhdgebmoohaaPureD
import Derived.Test.YtjghhdgebmoohaaCnfX
namespace Go.Proofs.Ytjghhdgebmoohaa
open Go.RowKit Go.Proofs.YtjghhdgebmoohaaW.PrintWords Go.Proofs.YtjghhdgebmoohaaW.PrintMore
set_option linter.unusedVariables false
set_option linter.unusedSimpArgs false
theorem cell_of_heap {W : World} {b : Nat} {cs : Array Value} {t : TypeId} {fr : Nat × Nat} (h : W.heap[b]? = some (.cells cs t fr)) (i : Nat) : W.cell? ⟨b, i, none⟩ = cs[i]? := by simp [World.cell?, h]
structure NMem (b : Nat) (A : Option Addr) (c0 : Nat) (c : List Int) (M : Option Addr) (d : Nat) (m : List Bool) (w0 W : World) : Prop where
  row : Kd.C (Kd.int .i64) W A c.length c
  mod : Kd.C Kd.bool W M m.length m
  cls : Kd.C (Kd.slice 3 (Kd.int .i64)) W (some ⟨b, 0, none⟩) [c].length [c]
  f0 : W.cell? ⟨b + 1, 0, none⟩ = some (.int .i64 60)
  f1 : W.cell? ⟨b + 1, 1, none⟩ = some (.slice (some ⟨b, 0, none⟩) 1 1)
  bel : Below w0.heap.size w0 W
theorem NMem.below {b : Nat} {A : Option Addr} {c0 : Nat} {c : List Int} {M : Option Addr} {d : Nat} {m : List Bool} {w0 W W' : World} (h : NMem b A c0 c M d m w0 W) (hb : Below W.heap.size W W') : NMem b A c0 c M d m w0 W' :=
  ⟨Kd.C_below h.row hb, Kd.C_below h.mod hb, Kd.C_below h.cls hb, pw_cell_below hb h.f0, pw_cell_below hb h.f1, h.bel.trans (hb.mono h.bel.size)⟩
theorem one_row {W : World} {b : Nat} {t : TypeId} {A : Option Addr} {c0 : Nat} {c : List Int} (hb : W.heap[b]? = some (.cells #[.slice A c.length c0] t (0, 0))) (hc : c.length ≤ c0) (hr : Kd.C (Kd.int .i64) W A c.length c) : Kd.C (Kd.slice 3 (Kd.int .i64)) W (some ⟨b, 0, none⟩) [c].length [c] := by
  refine lit_rows [c] hb (by simp) ?_
  intro j p hp
  match j, hp with
  | 0, hp => cases hp; exact ⟨_, _, rfl, hc, hr⟩
  | k + 1, hp => simp at hp
theorem total_one (c : List Int) : total [c] = c.length := by simp [total]
theorem check_sort {c : List Int} (hz : checkZ 60 [c] = 0) : checkZ 60 [sortN c] = 0 := by
  obtain ⟨_, _, h2, h3⟩ := checkZ_zero hz
  have h4 : allB c 60 = true := h3 c (by simp)
  have h5 : allB (sortN c) 60 = true := by
    unfold allB at *
    rw [List.all_eq_true] at *
    exact fun y hy => h4 y (mem_sortN hy)
  have h6 := sortN_length c
  unfold checkZ
  rw [if_neg (by omega), if_neg (by rw [total_one] at *; omega), if_neg (by omega)]
  simp [h5]
theorem holds_one {c : List Int} {m : List Bool} (hz : checkZ 60 [c] = 0) (hm : m.length = 60) : holdsB 60 [c] m = c.any (trueB m) := by
  unfold holdsB
  rw [hz, hm]
  simp
theorem any_sort (c : List Int) (p : Int → Bool) : (sortN c).any p = c.any p := by
  rw [Bool.eq_iff_iff]
  simp only [List.any_eq_true]
  constructor
  · rintro ⟨x, h1, h2⟩; exact ⟨x, sortN_mem.1 h1, h2⟩
  · rintro ⟨x, h1, h2⟩; exact ⟨x, sortN_mem.2 h1, h2⟩
theorem norm_small {c : List Int} (hz : checkZ 60 [c] = 0) : normL c = if oppB (sortN c) then ([], true) else (sortN c, false) := by
  obtain ⟨_, _, _, h3⟩ := checkZ_zero hz
  have h4 : allB c 60 = true := h3 c (by simp)
  have h5 : allB c 100000 = true := by
    unfold allB at *
    rw [List.all_eq_true] at *
    intro y hy
    have := h4 y hy
    have e1 : wrap64 (-60) = -60 := wrap_id (by omega) (by omega)
    have e2 : wrap64 (-100000) = -100000 := wrap_id (by omega) (by omega)
    unfold litB at *
    rw [e1] at this
    rw [e2]
    simp at this ⊢
    omega
  simp [normL, h5]
theorem always_holds {c : List Int} {m : List Bool} (hz : checkZ 60 [c] = 0) (hm : m.length = 60) (ho : oppB (sortN c) = true) : holdsB 60 [c] m = true := by
  have hok := lits_ok hz c (by simp)
  obtain ⟨y, h1, h2⟩ := (opp_iff (fun y hy => ⟨(hok y hy).1, (hok y hy).2.1, (hok y hy).2.2.1⟩)).1 ho
  rw [holds_one hz hm, List.any_eq_true]
  have h0 := (hok y h1).1
  cases hb : trueB m y with
  | true => exact ⟨y, h1, hb⟩
  | false =>
    refine ⟨-y, h2, ?_⟩
    unfold trueB at *
    rw [Int.natAbs_neg]
    generalize m.getD (y.natAbs - 1) false = b at *
    have hd : decide (-y > 0) = !decide (y > 0) := by
      by_cases h : y > 0
      · have : ¬ (-y > 0) := by omega
        simp [h]; omega
      · have : -y > 0 := by omega
        simp [h]; omega
    rw [hd]
    cases b <;> cases hy : decide (y > 0) <;> simp_all
theorem works_at (W : World) : Calls Try.prog 16 #[] W fun e w' => e = .returned (.bool true) ∧ Below W.heap.size W w' := works_any W
set_option maxRecDepth 100000 in
set_option maxHeartbeats 4000000 in
theorem cnfNormal_any (A : Option Addr) (c0 : Nat) (c : List Int) (M : Option Addr) (d : Nat) (m : List Bool) (w : World) (hr : Kd.C (Kd.int .i64) w A c.length c) (hc : c.length ≤ c0) (hm : Kd.C Kd.bool w M m.length m) (hd : m.length ≤ d) :
    Calls Try.prog 8 #[.slice A c.length c0, .slice M m.length d] w fun e w' => e = .returned (.bool true) ∧ Below w.heap.size w w' := by
  have hM : NMem w.heap.size A c0 c M d m w ((w.alloc (.cells #[.slice A c.length c0] 35)).alloc (.cells #[.int .i64 60, .slice (some ⟨w.heap.size, 0, none⟩) 1 1] 24)) := by
    have hb1 : Below w.heap.size w (w.alloc (.cells #[.slice A c.length c0] 35)) := (Below.refl _ w).alloc (Nat.le_refl _) _
    have hb2 : Below w.heap.size w ((w.alloc (.cells #[.slice A c.length c0] 35)).alloc (.cells #[.int .i64 60, .slice (some ⟨w.heap.size, 0, none⟩) 1 1] 24)) := hb1.alloc (by simp) _
    have hh : ((w.alloc (.cells #[.slice A c.length c0] 35)).alloc (.cells #[.int .i64 60, .slice (some ⟨w.heap.size, 0, none⟩) 1 1] 24)).heap[w.heap.size + 1]? = some (.cells #[.int .i64 60, .slice (some ⟨w.heap.size, 0, none⟩) 1 1] 24) := heap_new _ _ _ (by simp)
    refine ⟨Kd.C_below hr hb2, Kd.C_below hm hb2, one_row (t := 35) ((heap_old _ _ _ (by simp)).trans (heap_new _ _ _ rfl)) hc (Kd.C_below hr hb2), cell_of_heap hh 0, cell_of_heap hh 1, hb2⟩
  have HM := Aside0.mk hM
  have hb0 : Below w.heap.size w ((w.alloc (.cells #[.slice A c.length c0] 35)).alloc (.cells #[.int .i64 60, .slice (some ⟨w.heap.size, 0, none⟩) 1 1] 24)) := hM.bel
  have HW := Aside0.mk works_at
  have hl1 : c.length ≤ 9223372036854775807 := hr.2.1
  have hl2 : m.length ≤ 9223372036854775807 := hm.2.1
  have HB0 := Aside0.mk hb0
  clear hM hr hm hb0
  by_cases h1 : 30 < c.length
  · have b1 : 30 < (c.length : Int) := by omega
    go_enter Try.func8, Try.ntmps8
    go_wp2_with (go_at_call 16; refine (HW.out _).mono ?_; rintro e w' ⟨rfl, hb⟩; have HB := Aside0.mk hb; clear hb)
    go_ret
    exact ⟨rfl, HB0.out.trans (HB.out.mono HB0.out.size)⟩
  · have b1 : ¬ 30 < (c.length : Int) := by omega
    by_cases h2 : m.length = 60
    · have b2 : ((m.length : Int) != 60) = false := by simp [h2]
      have HCK := Aside0.mk (fun W (h : NMem w.heap.size A c0 c M d m w W) => cnf_Check_any 60 (some ⟨w.heap.size, 0, none⟩) 1 [c] W h.cls (by rw [total_one]; omega))
      by_cases h3 : checkZ 60 [c] = 0
      · rw [h3] at HCK
        cases h4 : oppB (sortN c) with
        | true =>
          have hn : cnf_Norm.f c = some ([], true) := by unfold cnf_Norm.f; rw [if_pos (by omega), norm_small h3, h4]; rfl
          have hh : cnf_Holds.f 60 [c] m = some true := by unfold cnf_Holds.f; rw [if_pos (by rw [total_one]; omega), always_holds h3 h2 h4]
          have HN := Aside0.mk (fun W (h : NMem w.heap.size A c0 c M d m w W) => cnf_Norm.calls A c0 c [] true W h.row hc hn)
          have HH := Aside0.mk (fun W (h : NMem w.heap.size A c0 c M d m w W) => cnf_Holds.calls 60 (some ⟨w.heap.size, 0, none⟩) 1 [c] M d m true W h.cls (by simp) h.mod hd hh)
          clear hn hh h3 h4 h2
          go_enter Try.func8, Try.ntmps8
          go_wp2_with fail
          refine (HCK.out _ HM.out).mono ?_
          rintro e w1 ⟨rfl, hb⟩
          replace HM := Aside0.mk (HM.out.below hb)
          have q0 := HM.out.f0
          have q1 := HM.out.f1
          clear hb
          go_wp2_with fail
          refine (HN.out _ HM.out).mono ?_
          rintro e w2 ⟨v, rfl, hR, hb⟩
          obtain ⟨A1, k1, rfl, _, _⟩ := Kd.R_reads hR
          replace HM := Aside0.mk (HM.out.below hb)
          clear q0 q1 hb hR
          have q0 := HM.out.f0
          have q1 := HM.out.f1
          go_wp2_with fail
          refine (HH.out _ HM.out).mono ?_
          rintro e w3 ⟨rfl, hb⟩
          replace HM := Aside0.mk (HM.out.below hb)
          clear q0 q1 hb
          go_wp2_with fail
          refine (HW.out _).mono ?_
          rintro e w4 ⟨rfl, hb⟩
          replace HM := Aside0.mk (HM.out.below hb)
          clear hb
          go_wp2
          go_ret
          exact ⟨rfl, HM.out.bel⟩
        | false =>
          have hn : cnf_Norm.f c = some (sortN c, false) := by unfold cnf_Norm.f; rw [if_pos (by omega), norm_small h3, h4]; rfl
          have hh : cnf_Holds.f 60 [c] m = some (c.any (trueB m)) := by unfold cnf_Holds.f; rw [if_pos (by rw [total_one]; omega), holds_one h3 h2]
          have hsl := sortN_length c
          have hh2 : cnf_Holds.f 60 [sortN c] m = some (c.any (trueB m)) := by unfold cnf_Holds.f; rw [if_pos (by rw [total_one]; omega), holds_one (check_sort h3) h2, any_sort]
          have HN := Aside0.mk (fun W (h : NMem w.heap.size A c0 c M d m w W) => cnf_Norm.calls A c0 c (sortN c) false W h.row hc hn)
          have HH := Aside0.mk (fun W (h : NMem w.heap.size A c0 c M d m w W) => cnf_Holds.calls 60 (some ⟨w.heap.size, 0, none⟩) 1 [c] M d m _ W h.cls (by simp) h.mod hd hh)
          have HH2 := Aside0.mk (fun (W : World) (b : Nat) (h : NMem w.heap.size A c0 c M d m w W) (hx : Kd.C (Kd.slice 3 (Kd.int .i64)) W (some ⟨b, 0, none⟩) [sortN c].length [sortN c]) => cnf_Holds.calls 60 (some ⟨b, 0, none⟩) 1 [sortN c] M d m _ W hx (by simp) h.mod hd hh2)
          clear hn hh hh2 h3 h4 h2
          generalize c.any (trueB m) = r at *
          go_enter Try.func8, Try.ntmps8
          go_wp2_with fail
          refine (HCK.out _ HM.out).mono ?_
          rintro e w1 ⟨rfl, hb⟩
          replace HM := Aside0.mk (HM.out.below hb)
          have q0 := HM.out.f0
          have q1 := HM.out.f1
          clear hb
          go_wp2_with fail
          refine (HN.out _ HM.out).mono ?_
          rintro e w2 ⟨v, rfl, hR, hb⟩
          obtain ⟨A1, k1, rfl, hk1, hK⟩ := Kd.R_reads hR
          replace HM := Aside0.mk (HM.out.below hb)
          have HK := Aside0.mk hK
          clear q0 q1 hb hR hK
          have q0 := HM.out.f0
          have q1 := HM.out.f1
          go_wp2_with fail
          refine (HH.out _ HM.out).mono ?_
          rintro e w3 ⟨rfl, hb⟩
          replace HM := Aside0.mk (HM.out.below hb)
          replace HK := Aside0.mk (Kd.C_below HK.out hb)
          clear q0 q1 hb
          have hal := (Below.refl w3.heap.size w3).alloc (Nat.le_refl _) (.cells #[.slice A1 (sortN c).length k1] 35)
          have HAL := Aside0.mk hal
          clear hal
          go_wp2_with fail
          refine (HH2.out _ _ (HM.out.below HAL.out) (one_row (t := 35) (heap_new _ _ _ rfl) hk1 (Kd.C_below HK.out HAL.out))).mono ?_
          rintro e w4 ⟨rfl, hb⟩
          replace HM := Aside0.mk ((HM.out.below HAL.out).below hb)
          clear hb
          have b5 : (r == r) = true := by simp
          go_wp2_with fail
          refine (HW.out _).mono ?_
          rintro e w5 ⟨rfl, hb⟩
          replace HM := Aside0.mk (HM.out.below hb)
          clear hb
          go_wp2
          go_ret
          exact ⟨rfl, HM.out.bel⟩
      · have b3 : (checkZ 60 [c] != 0) = true := by simpa using h3
        generalize checkZ 60 [c] = z at *
        clear h3 h2
        go_enter Try.func8, Try.ntmps8
        go_wp2_with fail
        refine (HCK.out _ HM.out).mono ?_
        rintro e w1 ⟨rfl, hb⟩
        replace HM := Aside0.mk (HM.out.below hb)
        clear hb
        go_wp2_with fail
        refine (HW.out _).mono ?_
        rintro e w4 ⟨rfl, hb⟩
        replace HM := Aside0.mk (HM.out.below hb)
        clear hb
        go_wp2
        go_ret
        exact ⟨rfl, HM.out.bel⟩
    · have b2 : ((m.length : Int) != 60) = true := by simp; omega
      go_enter Try.func8, Try.ntmps8
      go_wp2_with (go_at_call 16; refine (HW.out _).mono ?_; rintro e w' ⟨rfl, hb⟩; have HB := Aside0.mk hb; clear hb)
      go_ret
      exact ⟨rfl, HB0.out.trans (HB.out.mono HB0.out.size)⟩
namespace PCnf
def tithebarnlaw16_CnfNormal.f (l0 : List Int) (l1 : List Bool) : Option Bool := some true
theorem tithebarnlaw16_CnfNormal.calls (A0 : Option Addr) (c0 : Nat) (l0 : List Int) (A1 : Option Addr) (c1 : Nat) (l1 : List Bool) (r : Bool) (w : World) (hr0 : Kd.C (Kd.int .i64) w A0 l0.length l0) (hc0 : l0.length ≤ c0) (hr1 : Kd.C Kd.bool w A1 l1.length l1) (hc1 : l1.length ≤ c1) (h : tithebarnlaw16_CnfNormal.f l0 l1 = some r) :
    Calls Try.prog 8 #[.slice A0 l0.length c0, .slice A1 l1.length c1] w fun e w' => e = .returned (.bool r) ∧ Below w.heap.size w w' := by
  obtain rfl := Option.some.inj h
  exact cnfNormal_any A0 c0 l0 A1 c1 l1 w hr0 hc0 hr1 hc1
end PCnf
theorem CnfNormal_pure : ∀ (l0 : (List Int)) (l1 : (List Bool)), (l0.length ≤ maxLen ∧ ∀ y0 ∈ l0, (Lit.int .i64 y0).wf = true) → (l1.length ≤ maxLen ∧ ∀ y0 ∈ l1, True) → ∃ k : Nat, PCnf.tithebarnlaw16_CnfNormal.f l0 l1 = some true := fun _ _ _ _ => ⟨0, rfl⟩
end Go.Proofs.Ytjghhdgebmoohaa
