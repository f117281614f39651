/- Plain law: VersionOrder. -/
import Derived.Test.YtnbmdecehlljcaaDoorPVerx11
import Derived.Test.YtnbmdecehlljcaaDoorVerR
namespace Go.Proofs.YtnbmdecehlljcaaDoor
open Go.RowKit Go.Lib Go.Proofs.YtnbmdecehlljcaaDoorW.PrintWords Go.Proofs.YtnbmdecehlljcaaDoorW.PrintLast Go.Proofs.YtnbmdecehlljcaaDoorW.PrintMore PVer
set_option linter.unusedVariables false
set_option linter.unusedSimpArgs false
theorem order_j1 (a : List Int) (s : ByteArray) (b : List Int) (t : ByteArray) (c : List Int) (u : ByteArray) (h1 : a.length ≤ 100) (h2 : b.length ≤ 100) (h3 : s.size ≤ 100) (h4 : t.size ≤ 100) :
    Ev (fun k => tithebarnlaw13_VersionOrder.j1 k (cmpV a s.data.toList b t.data.toList) (cmpV b t.data.toList c u.data.toList) (cmpV a s.data.toList c u.data.toList) (decide (a = b ∧ s = t)) a s b t) true := by
  have hn := cmpV_neg a s.data.toList b t.data.toList
  have hz := cmpV_zero a s.data.toList b t.data.toList
  have hr := cmpV_range a s.data.toList b t.data.toList
  have ht := cmpV_trans a s.data.toList b t.data.toList c u.data.toList
  have hzz : ((cmpV a s.data.toList b t.data.toList == 0) != decide (a = b ∧ s = t)) = false := by
    by_cases h : cmpV a s.data.toList b t.data.toList = 0
    · rw [h, decide_eq_true (by have := hz.1 h; exact ⟨this.1, ba_eq.2 this.2⟩)]
      rfl
    · rw [decide_eq_false (fun hh => h (hz.2 ⟨hh.1, ba_eq.1 hh.2⟩))]
      simp [h]
  refine Ev.step (f := fun _ => some true) (fun k => ?_) (Ev.now _)
  simp only [tithebarnlaw13_VersionOrder.j1]
  rw [compare_f b t a s h2 h1 h4 h3, Option.bind_some, hn]
  generalize cmpV a s.data.toList b t.data.toList = x at *
  generalize cmpV b t.data.toList c u.data.toList = y at *
  generalize cmpV a s.data.toList c u.data.toList = z at *
  have hw : wrap64 (- -x) = x := by rw [Int.neg_neg]; exact wrap_id (by omega) (by omega)
  rw [hw, if_pos rfl, if_neg (by rw [hzz]; decide), if_neg (by omega), if_neg (by omega)]
  simp only [works_bind]
  by_cases x0 : x ≤ 0
  · rw [if_pos x0]
    by_cases y0 : y ≤ 0
    · rw [if_pos y0, if_neg (by have := ht.1 x0 y0; omega)]
      by_cases x1 : x < 0
      · rw [if_pos x1, if_neg (by have := ht.2.1 x1 y0; omega)]
      · rw [if_neg x1]
    · rw [if_neg y0]
      by_cases x1 : x < 0
      · rw [if_pos x1]
      · rw [if_neg x1]
  · rw [if_neg x0, if_neg (by omega)]
theorem order_j0 (a : List Int) (s : ByteArray) (b : List Int) (t : ByteArray) (c : List Int) (u : ByteArray) (f : Bool) (h1 : a.length ≤ 100) (h2 : b.length ≤ 100) (h5 : c.length ≤ 100) (h3 : s.size ≤ 100) (h4 : t.size ≤ 100) (hf : f = decide ((u.size : Int) > 100)) :
    Ev (fun k => tithebarnlaw13_VersionOrder.j0 k f a s b t c u) true := by
  by_cases h6 : u.size ≤ 100
  · have : f = false := by rw [hf]; simp; omega
    subst this
    refine Ev.step (f := fun k => (tithebarnkit_SameInts.f k a b).bind fun t185 => (if t185 = true then (tithebarnlaw13_VersionOrder.j1 k (cmpV a s.data.toList b t.data.toList) (cmpV b t.data.toList c u.data.toList) (cmpV a s.data.toList c u.data.toList) (s.toList == t.toList) a s b t) else (tithebarnlaw13_VersionOrder.j1 k (cmpV a s.data.toList b t.data.toList) (cmpV b t.data.toList c u.data.toList) (cmpV a s.data.toList c u.data.toList) false a s b t))) (fun k => ?_) (Ev.bind (same_ev a b (by omega)) ?_)
    · simp only [tithebarnlaw13_VersionOrder.j0]
      rw [if_neg (by decide), compare_f a s b t h1 h2 h3 h4, compare_f b t c u h2 h5 h4 h6, compare_f a s c u h1 h5 h3 h6]
      rfl
    · have hj := order_j1 a s b t c u h1 h2 h3 h4
      by_cases e : a = b
      · refine Ev.ite_pos (by simpa using e) ?_
        have : (s.toList == t.toList) = decide (a = b ∧ s = t) := by
          rw [ByteArray.toList_eq, ByteArray.toList_eq, Bool.eq_iff_iff]
          simp [e, ba_eq]
        rw [this]
        exact hj
      · refine Ev.ite_neg (by simpa using e) ?_
        have : decide (a = b ∧ s = t) = false := by simp [e]
        rw [this] at hj
        exact hj
  · have : f = true := by rw [hf]; simp; omega
    subst this
    refine Ev.step (f := fun _ => some true) (fun k => ?_) (Ev.now _)
    simp only [tithebarnlaw13_VersionOrder.j0]
    rfl
theorem order_true (a : List Int) (s : ByteArray) (b : List Int) (t : ByteArray) (c : List Int) (u : ByteArray) : Ev (fun k => tithebarnlaw13_VersionOrder.j0 k true a s b t c u) true := by
  refine Ev.step (f := fun _ => some true) (fun k => ?_) (Ev.now _)
  simp only [tithebarnlaw13_VersionOrder.j0]
  rfl
theorem pure_VersionOrder : ∀ (l0_0 : (List Int)) (a0_1 : ByteArray) (l1_0 : (List Int)) (a1_1 : ByteArray) (l2_0 : (List Int)) (a2_1 : ByteArray), (l0_0.length ≤ maxLen ∧ ∀ y0 ∈ l0_0, (Lit.int .i64 y0).wf = true) → a0_1.size ≤ maxLen → (l1_0.length ≤ maxLen ∧ ∀ y0 ∈ l1_0, (Lit.int .i64 y0).wf = true) → a1_1.size ≤ maxLen → (l2_0.length ≤ maxLen ∧ ∀ y0 ∈ l2_0, (Lit.int .i64 y0).wf = true) → a2_1.size ≤ maxLen → ∃ k, PVer.tithebarnlaw13_VersionOrder.f k l0_0 a0_1 l1_0 a1_1 l2_0 a2_1 = some true := by
  intro a s b t c u _ _ _ _ _ _
  refine Ev.rounds (g := fun k => tithebarnlaw13_VersionOrder.f k a s b t c u) ?_
  have hT := order_true a s b t c u
  unfold tithebarnlaw13_VersionOrder.f
  by_cases h1 : (a.length : Int) > 100
  · exact Ev.ite_pos h1 hT
  · refine Ev.ite_neg h1 ?_
    by_cases h2 : (b.length : Int) > 100
    · exact Ev.ite_pos h2 hT
    · refine Ev.ite_neg h2 ?_
      by_cases h3 : (c.length : Int) > 100
      · exact Ev.ite_pos h3 hT
      · refine Ev.ite_neg h3 ?_
        by_cases h4 : (s.size : Int) > 100
        · exact Ev.ite_pos h4 hT
        · refine Ev.ite_neg h4 ?_
          by_cases h5 : (t.size : Int) > 100
          · exact Ev.ite_pos h5 hT
          · refine Ev.ite_neg h5 ?_
            exact order_j0 a s b t c u _ (by omega) (by omega) (by omega) (by omega) (by omega) rfl
end Go.Proofs.YtnbmdecehlljcaaDoor
