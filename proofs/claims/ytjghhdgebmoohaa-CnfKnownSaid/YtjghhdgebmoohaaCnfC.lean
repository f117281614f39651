/- cnf.size, cnf.Holds: what each answers. -/
import Derived.Test.YtjghhdgebmoohaaCnfB
namespace Go.Proofs.Ytjghhdgebmoohaa
open Go.RowKit Go.Proofs.YtjghhdgebmoohaaW.PrintWords Go.Proofs.YtjghhdgebmoohaaW.PrintMore
attribute [local go_sem] max2_int min2_int max_two min_two
set_option linter.unusedVariables false
set_option linter.unusedSimpArgs false
theorem cnf_size_any (x : Int) (h1 : -100000 ≤ x) (h2 : x ≤ 100000) (w : World) : Calls Try.prog 47 #[.int .i64 x] w fun e w' => e = .returned (.int .i64 (x.natAbs : Int)) ∧ w' = w := by
  by_cases hx : x < -x
  · have e : ((x.natAbs : Nat) : Int) = -x := by omega
    have E := Aside0.mk e
    clear e
    go_enter Try.func47, Try.ntmps47
    go_wp2
    go_ret
    exact ⟨by rw [E.out]; rfl, rfl⟩
  · have e : ((x.natAbs : Nat) : Int) = x := by omega
    have E := Aside0.mk e
    clear e
    go_enter Try.func47, Try.ntmps47
    go_wp2
    go_ret
    exact ⟨by rw [E.out]; rfl, rfl⟩
/-- Does a literal hold in a model? -/
def trueB (m : List Bool) (x : Int) : Bool := m.getD (x.natAbs - 1) false == decide (x > 0)
set_option maxHeartbeats 1000000 in
theorem cnf_holds_any (x : Int) (A : Option Addr) (c : Nat) (m : List Bool) (w : World) (h0 : x ≠ 0) (h1 : -100000 ≤ x) (h2 : x ≤ 100000) (h3 : x.natAbs ≤ m.length) (hr : Kd.C Kd.bool w A m.length m) :
    Calls Try.prog 54 #[.int .i64 x, .slice A m.length c] w fun e w' => e = .returned (.bool (trueB m x)) ∧ w' = w := by
  obtain ⟨ad, rfl, hc⟩ := Kd.at_bool hr (x.natAbs - 1 : Int) (by omega) (by omega)
  have hc' : w.cell? (ad.add (x.natAbs - 1)) = some (.bool (m.getD (x.natAbs - 1) false)) := by
    have e : ((x.natAbs : Int) - 1).toNat = x.natAbs - 1 := by omega
    rw [e] at hc
    rw [hc]
    simp only [rdOf, e]
  have hz := Aside0.mk (cnf_size_any x h1 h2 w)
  have E : Aside0 (trueB m x = (m.getD (x.natAbs - 1) false == decide (x > 0))) := ⟨rfl⟩
  generalize hb : m.getD (x.natAbs - 1) false = b at *
  have hq : 1 ≤ x.natAbs := by omega
  generalize hqq : x.natAbs = q at *
  have hl : m.length ≤ 9223372036854775807 := hr.2.1
  clear hb hc hr hqq h0 h1 h2
  go_enter Try.func54, Try.ntmps54
  go_wp2_with (go_at_call 47; refine (hz.out).mono ?_; rintro e w' ⟨rfl, rfl⟩)
  go_ret
  exact ⟨by rw [E.out]; rfl, rfl⟩
theorem holds11_any (x : Int) (A : Option Addr) (c : Nat) (m : List Bool) (b : Nat) (w : World) (h0 : x ≠ 0) (h1 : -100000 ≤ x) (h2 : x ≤ 100000) (h3 : x.natAbs ≤ m.length) (hr : Kd.C Kd.bool w A m.length m) (hc : w.cell? ⟨b, 0, none⟩ = some (.slice A m.length c)) :
    Calls Try.prog 53 #[.int .i64 x, .pointer (some ⟨b, 0, none⟩)] w fun e w' => e = .returned (.bool (trueB m x)) ∧ w' = w := by
  have hz := Aside0.mk (cnf_holds_any x A c m w h0 h1 h2 h3 hr)
  clear h0 h1 h2 h3 hr
  go_enter Try.func53, Try.ntmps53
  go_wp2_with (go_at_call 54; refine (hz.out).mono ?_; rintro e w' ⟨rfl, rfl⟩)
  go_ret
  exact ⟨rfl, rfl⟩
theorem litB_bounds {x n : Int} (h : litB x n = true) (h0 : 0 ≤ n) (h1 : n ≤ 100000) : x ≠ 0 ∧ -100000 ≤ x ∧ x ≤ 100000 ∧ (x.natAbs : Int) ≤ n := by
  unfold litB at h
  have e : wrap64 (-n) = -n := by unfold wrap64; omega
  rw [e] at h
  simp at h
  omega
theorem anyP_true (l : List Int) (m : List Bool) : anyP (fun j => trueB m (l.getD j 0)) l.length = l.any (trueB m) := by
  unfold anyP
  rw [Bool.eq_iff_iff]
  simp only [List.any_eq_true, List.mem_range]
  constructor
  · rintro ⟨j, hj, h⟩
    exact ⟨l[j], List.getElem_mem hj, by simpa [hj] using h⟩
  · rintro ⟨x, hx, h⟩
    obtain ⟨j, hj, rfl⟩ := List.getElem_of_mem hx
    exact ⟨j, hj, by simpa [hj] using h⟩
set_option maxHeartbeats 1000000 in
theorem holds1_any (A : Option Addr) (c : Nat) (l : List Int) (M : Option Addr) (d : Nat) (m : List Bool) (n : Int) (b : Nat) (w : World) (h0 : 0 ≤ n) (h1 : n ≤ 100000) (h2 : n ≤ m.length) (hl : allB l n = true) (hr : Kd.C (Kd.int .i64) w A l.length l) (hm : Kd.C Kd.bool w M m.length m) (hb : b < w.heap.size) (hc : w.cell? ⟨b, 0, none⟩ = some (.slice M m.length d)) :
    Calls Try.prog 51 #[.slice A l.length c, .pointer (some ⟨b, 0, none⟩)] w fun e w' => e = .returned (.bool (!l.any (trueB m))) ∧ Below w.heap.size w w' := by
  have eg : ∀ args w, (callFunc 53 args).run Try.prog w = .ok (.enter 53 args) w := enters_of Try.func53 (by kernel_rfl) rfl
  have H : Calls Try.prog 52 #[.slice A l.length c, .func (.func 53) #[] #[.pointer (some ⟨b, 0, none⟩)]] w fun e w' => e = .returned (.bool (l.any (trueB m))) ∧ Below w.heap.size w w' := by
    rw [← anyP_true]
    refine ContainsFunc_ints _ _ eg A l.length c (fun j => .int .i64 (l.getD j 0)) _ w hr.2.1 (rowPlaces_ints hr) ?_
    intro j hj W hb'
    have hx : litB (l.getD j 0) n = true := by
      unfold allB at hl
      rw [List.all_eq_true] at hl
      exact hl _ (by simp [hj])
    obtain ⟨a1, a2, a3, a4⟩ := litB_bounds hx h0 h1
    refine (holds11_any (l.getD j 0) M d m b W a1 a2 a3 (by omega) (Kd.C_below hm hb') ((hb'.cell (p := ⟨b, 0, none⟩) hb).trans hc)).mono ?_
    rintro e w' ⟨rfl, rfl⟩
    exact ⟨rfl, Below.refl _ _⟩
  have H' := Aside0.mk H
  clear H hr hm eg hc hb h0 h1 h2 hl
  go_enter Try.func51, Try.ntmps51
  go_wp2_with (go_at_call 52; refine (H'.out).mono ?_; rintro e w' ⟨rfl, hb⟩; have HB := Aside0.mk hb; clear hb)
  go_ret
  exact ⟨rfl, HB.out⟩
/-- Does a formula hold in a model? -/
def holdsB (n : Int) (l : List (List Int)) (m : List Bool) : Bool := decide (checkZ n l = 0) && decide (n ≤ m.length) && l.all fun c => c.any (trueB m)
theorem checkZ_zero {n : Int} {l : List (List Int)} (h : checkZ n l = 0) : 0 ≤ n ∧ n ≤ 100000 ∧ total l ≤ 1000000 ∧ ∀ c ∈ l, allB c n = true := by
  unfold checkZ at h
  by_cases h1 : n > 100000
  · rw [if_pos h1] at h; omega
  · rw [if_neg h1] at h
    by_cases h2 : total l > 1000000
    · rw [if_pos h2] at h; omega
    · rw [if_neg h2] at h
      by_cases h3 : n < 0
      · rw [if_pos h3] at h; omega
      · rw [if_neg h3] at h
        by_cases h4 : (l.all fun c => allB c n) = true
        · exact ⟨by omega, by omega, by omega, fun c hc => List.all_eq_true.1 h4 c hc⟩
        · rw [if_neg h4] at h; omega
set_option maxHeartbeats 1000000 in
theorem cnf_Holds_any (n : Int) (A : Option Addr) (c : Nat) (l : List (List Int)) (M : Option Addr) (d : Nat) (m : List Bool) (w : World) (hr : Kd.C (Kd.slice 3 (Kd.int .i64)) w A l.length l) (hm : Kd.C Kd.bool w M m.length m) (ht : total l < 1152921504606846976) :
    Calls Try.prog 25 #[.agg #[.int .i64 n, .slice A l.length c], .slice M m.length d] w fun e w' => e = .returned (.bool (holdsB n l m)) ∧ Below w.heap.size w w' := by
  have eg : ∀ args w, (callFunc 51 args).run Try.prog w = .ok (.enter 51 args) w := enters_of Try.func51 (by kernel_rfl) rfl
  have hchk : ∀ W : World, Below w.heap.size w W → Calls Try.prog 17 #[.agg #[.int .i64 n, .slice A l.length c]] W fun e w' => e = .returned (.int .i64 (checkZ n l)) ∧ Below W.heap.size W w' := fun W hb => cnf_Check_any n A c l W (Kd.C_below hr hb) ht
  have a1 : Below w.heap.size w ((w.alloc (Obj.cells #[Value.int IntKind.i64 n, Value.slice A l.length c] 24)).alloc (Obj.cells #[Value.slice M m.length d] 40)) := ((Below.refl _ w).alloc (Nat.le_refl _) _).alloc (by simp) _
  have hm0 : m.length ≤ 9223372036854775807 := hm.2.1
  have A1 := Aside0.mk a1
  clear a1
  have HCHK := Aside0.mk hchk
  clear hchk
  cases hz : decide (checkZ n l = 0) with
  | false =>
    have hne : (checkZ n l != 0) = true := by simpa using hz
    have E : Aside0 (holdsB n l m = false) := ⟨by simp [holdsB, hz]⟩
    clear hr hm eg hz ht
    generalize checkZ n l = z at *
    go_enter Try.func25, Try.ntmps25
    go_wp2_with (go_at_call 17; refine ((HCHK.out) _ A1.out).mono ?_; rintro e w' ⟨rfl, hb⟩; have HB := Aside0.mk hb; clear hb)
    go_ret
    exact ⟨by rw [E.out]; rfl, A1.out.trans (HB.out.mono A1.out.size)⟩
  | true =>
    have hz0 : checkZ n l = 0 := of_decide_eq_true hz
    obtain ⟨h0, h1, h2, hall⟩ := checkZ_zero hz0
    rw [hz0] at HCHK
    by_cases h3 : n ≤ m.length
    · have hcon : ∀ W : World, Below w.heap.size w W → W.cell? ⟨w.heap.size + 1, 0, none⟩ = some (.slice M m.length d) → w.heap.size + 1 < W.heap.size → Calls Try.prog 38 #[.slice A l.length c, .func (.func 51) #[] #[.pointer (some ⟨w.heap.size + 1, 0, none⟩)]] W fun e w' => e = .returned (.bool (!(l.all fun c => c.any (trueB m)))) ∧ Below W.heap.size W w' := by
        intro W hb hc hs
        obtain ⟨V, hV, hVs⟩ := rowPlaces_intss (Kd.C_below hr hb)
        rw [← anyP_clauses l (fun c => c.any (trueB m))]
        refine ContainsFunc_intss _ _ eg A l.length c V _ W hr.2.1 hV ?_
        intro j hj W' hb'
        obtain ⟨A', c', e, _, hK⟩ := hVs j hj
        rw [e]
        exact holds1_any A' c' _ M d m n (w.heap.size + 1) W' h0 h1 h3 (hall _ (by simp [hj])) (Kd.C_below hK hb') (Kd.C_below (Kd.C_below hm hb) hb') (Nat.lt_of_lt_of_le hs hb'.size) ((hb'.cell (p := ⟨w.heap.size + 1, 0, none⟩) hs).trans hc)
      have HCON := Aside0.mk hcon
      have E : Aside0 (holdsB n l m = l.all fun c => c.any (trueB m)) := ⟨by simp [holdsB, hz, h3]⟩
      clear hcon hr hm eg hz hz0 ht h0 h1 h2 hall
      generalize (l.all fun c => c.any (trueB m)) = q at *
      have h3' : ¬ ((m.length : Int) < n) := by omega
      go_enter Try.func25, Try.ntmps25
      go_wp2_with (first | (go_at_call 17; refine ((HCHK.out) _ A1.out).mono ?_; rintro e w' ⟨rfl, hb⟩; have hc0 := hb.cell (p := ⟨w.heap.size, 0, none⟩) (by simp; omega); have hc1 := hb.cell (p := ⟨w.heap.size, 1, none⟩) (by simp; omega); have hc2 := hb.cell (p := ⟨w.heap.size + 1, 0, none⟩) (by simp); have hs := hb.size; simp at hc0 hc1 hc2 hs; have HB := Aside0.mk hb; clear hb) | (go_at_call 38; refine ((HCON.out) _ (A1.out.trans (HB.out.mono A1.out.size)) hc2 (by omega)).mono ?_; rintro e w' ⟨rfl, hb⟩; have HB2 := Aside0.mk hb; clear hb))
      go_ret
      exact ⟨by rw [E.out]; simp, (A1.out.trans (HB.out.mono A1.out.size)).trans (HB2.out.mono (Nat.le_trans A1.out.size HB.out.size))⟩
    · have E : Aside0 (holdsB n l m = false) := ⟨by simp [holdsB, h3]⟩
      have h3' : (m.length : Int) < n := by omega
      clear hr hm eg hz hz0 ht h0 h1 h2 hall
      go_enter Try.func25, Try.ntmps25
      go_wp2_with (go_at_call 17; refine ((HCHK.out) _ A1.out).mono ?_; rintro e w' ⟨rfl, hb⟩; have hc0 := hb.cell (p := ⟨w.heap.size, 0, none⟩) (by simp; omega); have hc2 := hb.cell (p := ⟨w.heap.size + 1, 0, none⟩) (by simp); have hs := hb.size; simp at hc0 hc2 hs; have HB := Aside0.mk hb; clear hb)
      go_ret
      exact ⟨by rw [E.out]; rfl, A1.out.trans (HB.out.mono A1.out.size)⟩
end Go.Proofs.Ytjghhdgebmoohaa
