/- Plain laws: the reference's Compare is the program's. -/
import Derived.Test.YtnbmdecehlljcaaGreatDoorPRqx16
import Derived.Test.YtnbmdecehlljcaaGreatDoorRnU
namespace Go.Proofs.YtnbmdecehlljcaaGreatDoor
open Go.RowKit Go.Lib Go.Proofs.YtnbmdecehlljcaaGreatDoorW.PrintWords Go.Proofs.YtnbmdecehlljcaaGreatDoorW.PrintLast Go.Proofs.YtnbmdecehlljcaaGreatDoorW.PrintMore PRq
set_option linter.unusedVariables false
set_option linter.unusedSimpArgs false
theorem bless : ∀ s t : List UInt8, s ≠ t → cmpL (bytesI s) (bytesI t) = if Op.bytesLess s t = true then -1 else 1
  | [], [], h => absurd rfl h
  | [], b :: t, _ => by simp [bytesI, cmpL, Op.bytesLess]
  | a :: s, [], _ => by simp [bytesI, cmpL, Op.bytesLess]
  | a :: s, b :: t, h => by
    have hab : (a.toNat : Int) < (b.toNat : Int) ↔ a < b := by rw [UInt8.lt_iff_toNat_lt]; omega
    have hba : (b.toNat : Int) < (a.toNat : Int) ↔ b < a := by rw [UInt8.lt_iff_toNat_lt]; omega
    simp only [bytesI, List.map_cons, cmpL, Op.bytesLess]
    by_cases h1 : a < b
    · rw [if_pos (hab.2 h1)]
      simp [h1]
    · rw [if_neg (fun hh => h1 (hab.1 hh))]
      by_cases h2 : b < a
      · rw [if_pos (hba.2 h2)]
        have hne : (a == b) = false := by
          rw [beq_eq_false_iff_ne]
          intro e
          rw [e] at h2
          exact absurd h2 (UInt8.lt_irrefl _)
        simp [h1, hne]
      · rw [if_neg (fun hh => h2 (hba.1 hh))]
        have e : a = b := by
          apply UInt8.toNat_inj.1
          have h1' : ¬ (a.toNat : Int) < b.toNat := fun hh => h1 (hab.1 hh)
          have h2' : ¬ (b.toNat : Int) < a.toNat := fun hh => h2 (hba.1 hh)
          omega
        subst e
        have ih := bless s t (fun e => h (by rw [e]))
        have : (List.map (fun b => (b.toNat : Int)) s) = bytesI s := rfl
        have : (List.map (fun b => (b.toNat : Int)) t) = bytesI t := rfl
        show cmpL (bytesI s) (bytesI t) = _
        rw [ih]
        simp [h1]
theorem cmpV_eqc (x : Int) (a b : List Int) (s t : List UInt8) : cmpV (x :: a) s (x :: b) t = cmpV a s b t := by
  unfold cmpV
  have : cmpL (x :: a) (x :: b) = cmpL a b := by rw [cmpL, if_neg (by omega), if_neg (by omega)]
  rw [this]
theorem cmpV_of (a b : List Int) (s t : List UInt8) (h : cmpL a b ≠ 0) : cmpV a s b t = cmpL a b := by unfold cmpV; rw [if_pos h]
theorem cmpV_tags (s t : List UInt8) : cmpV [] s [] t = if s = t then 0 else if s = [] then 1 else if t = [] then -1 else if Op.bytesLess s t = true then -1 else 1 := by
  by_cases h : s = t
  · rw [if_pos h]
    exact (cmpV_zero [] s [] t).2 ⟨rfl, h⟩
  · rw [if_neg h]
    have hb := bless s t h
    unfold cmpV noneT cmpI
    rw [if_neg (by simp [cmpL])]
    by_cases h1 : s = []
    · have h2 : t ≠ [] := fun e => h (by rw [h1, e])
      simp [h1, h2]
    · by_cases h2 : t = []
      · simp [h1, h2]
      · simp [h1, h2, hb]
theorem fin_f (a b : List Int) (s t : ByteArray) (i : Nat) (h : i = a.length ∧ i ≤ b.length ∨ i = b.length ∧ i ≤ a.length) :
    (if (a.length : Int) < (b.length : Int) then (some (-1) : Option Int) else (if (a.length : Int) > (b.length : Int) then (some 1) else (if s.toList = t.toList then (some 0) else (if s.toList = ([] : List UInt8) then (some 1) else (if t.toList = ([] : List UInt8) then (some (-1)) else (if (Op.bytesLess s.toList t.toList) = true then (some (-1)) else (some 1))))))) = some (cmpV (a.drop i) s.data.toList (b.drop i) t.data.toList) := by
  by_cases c1 : a.length < b.length
  · rw [if_pos (by omega)]
    have ha : a.drop i = [] := List.drop_eq_nil_of_le (by omega)
    have hb : i < b.length := by omega
    rw [ha, List.drop_eq_getElem_cons hb, cmpV_of _ _ _ _ (by simp [cmpL])]
    rfl
  · by_cases c2 : a.length > b.length
    · rw [if_neg (by omega), if_pos (by omega)]
      have hb : b.drop i = [] := List.drop_eq_nil_of_le (by omega)
      have ha : i < a.length := by omega
      rw [hb, List.drop_eq_getElem_cons ha, cmpV_of _ _ _ _ (by simp [cmpL])]
      rfl
    · rw [if_neg (by omega), if_neg (by omega)]
      have ha : a.drop i = [] := List.drop_eq_nil_of_le (by omega)
      have hb : b.drop i = [] := List.drop_eq_nil_of_le (by omega)
      rw [ha, hb, cmpV_tags, ByteArray.toList_eq, ByteArray.toList_eq]
      split
      · rfl
      · split
        · rfl
        · split
          · rfl
          · split <;> rfl
theorem refcmp_l0 (a b : List Int) (s t : ByteArray) (hl : a.length ≤ 1000000) : ∀ (d i : Nat), i + d = a.length → i ≤ b.length → Ev (fun k => tithebarnref13_Compare.l0 k (i : Int) a s b t) (cmpV (a.drop i) s.data.toList (b.drop i) t.data.toList) := by
  intro d
  induction d with
  | zero =>
    intro i hi hb
    refine Ev.step (f := fun k => tithebarnref13_Compare.j1 k (i : Int) false a s b t) (fun k => ?_) (Ev.step (f := fun _ => some (cmpV (a.drop i) s.data.toList (b.drop i) t.data.toList)) (fun k => ?_) (Ev.now _))
    · simp only [tithebarnref13_Compare.l0]
      rw [if_neg (by omega)]
    · simp only [tithebarnref13_Compare.j1]
      rw [if_neg (by decide)]
      exact fin_f a b s t i (.inl ⟨by omega, hb⟩)
  | succ d ih =>
    intro i hi hb
    have hia : i < a.length := by omega
    refine Ev.step (f := fun k => tithebarnref13_Compare.j1 k (i : Int) (decide ((i : Int) < (b.length : Int))) a s b t) (fun k => ?_) ?_
    · simp only [tithebarnref13_Compare.l0]
      rw [if_pos (by omega)]
    · by_cases hib : i < b.length
      · rw [decide_eq_true (by omega)]
        have e1 : rd a (i : Int) = a[i] := by rw [rd_nat]; simp [hia]
        have e2 : rd b (i : Int) = b[i] := by rw [rd_nat]; simp [hib]
        rw [List.drop_eq_getElem_cons hia, List.drop_eq_getElem_cons hib]
        by_cases c1 : a[i] < b[i]
        · rw [cmpV_of _ _ _ _ (by rw [cmpL, if_pos c1]; decide), cmpL, if_pos c1]
          refine Ev.step (f := fun _ => some (-1)) (fun k => ?_) (Ev.now _)
          simp only [tithebarnref13_Compare.j1]
          rw [if_pos trivial, if_pos (by omega), if_pos (by omega), if_pos (by omega), e1, e2, if_pos c1]
        · by_cases c2 : b[i] < a[i]
          · rw [cmpV_of _ _ _ _ (by rw [cmpL, if_neg c1, if_pos c2]; decide), cmpL, if_neg c1, if_pos c2]
            refine Ev.step (f := fun _ => some 1) (fun k => ?_) (Ev.now _)
            simp only [tithebarnref13_Compare.j1]
            rw [if_pos trivial, if_pos (by omega), if_pos (by omega), if_pos (by omega), e1, e2, if_neg c1, if_pos c2]
          · have e : a[i] = b[i] := by omega
            rw [e, cmpV_eqc]
            refine Ev.step (fun k => ?_) (ih (i + 1) (by omega) (by omega))
            simp only [tithebarnref13_Compare.j1]
            rw [if_pos trivial, if_pos (by omega), if_pos (by omega), if_pos (by omega), e1, e2, if_neg c1, if_neg (by omega), wrap_id (by omega) (by omega)]
            rfl
      · rw [decide_eq_false (by omega)]
        refine Ev.step (f := fun _ => some (cmpV (a.drop i) s.data.toList (b.drop i) t.data.toList)) (fun k => ?_) (Ev.now _)
        simp only [tithebarnref13_Compare.j1]
        rw [if_neg (by decide)]
        exact fin_f a b s t i (.inr ⟨by omega, by omega⟩)
theorem refcmp_ev (a b : List Int) (s t : ByteArray) (hl : a.length ≤ 1000000) : Ev (fun k => tithebarnref13_Compare.f k a s b t) (cmpV a s.data.toList b t.data.toList) := by
  have := refcmp_l0 a b s t hl a.length 0 (by omega) (by omega)
  rw [List.drop_zero, List.drop_zero] at this
  exact this
end Go.Proofs.YtnbmdecehlljcaaGreatDoor
