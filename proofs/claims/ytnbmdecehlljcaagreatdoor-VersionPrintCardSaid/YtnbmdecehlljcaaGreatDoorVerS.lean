/- Plain laws: the reference's reading of a version is the program's; VersionParse. -/
import Derived.Test.YtnbmdecehlljcaaGreatDoorPVerx7
import Derived.Test.YtnbmdecehlljcaaGreatDoorVerR
namespace Go.Proofs.YtnbmdecehlljcaaGreatDoor
open Go.RowKit Go.Lib Go.Proofs.YtnbmdecehlljcaaGreatDoorW.PrintWords Go.Proofs.YtnbmdecehlljcaaGreatDoorW.PrintLast Go.Proofs.YtnbmdecehlljcaaGreatDoorW.PrintMore PVer
set_option linter.unusedVariables false
set_option linter.unusedSimpArgs false
theorem bt_nat (s : ByteArray) (i : Nat) (h : i < s.data.toList.length) : bt s (i : Int) = ((s.data.toList[i]'h).toNat : Int) := by
  unfold bt
  have h2 : (i : Int).toNat < s.size := by have := Lib.size_eq s; simp; omega
  rw [dif_pos h2]
  congr 1
theorem ext_list (s : ByteArray) (i j : Nat) : (s.extract i j).data.toList = (s.data.toList.drop i).take (j - i) := by
  rw [ByteArray.data_extract, Array.toList_extract]
theorem isTagB_int (b : UInt8) : isTagB b = true ↔ (97 ≤ (b.toNat : Int) ∧ (b.toNat : Int) ≤ 122) ∨ (48 ≤ (b.toNat : Int) ∧ (b.toNat : Int) ≤ 57) := by
  unfold isTagB
  simp
  omega
theorem tag_l0 (s : ByteArray) (hs : s.size ≤ 1000000) : ∀ (d i : Nat), i + d = s.size → Ev (fun k => tithebarnref13_tag.l0 k s (i : Int)) ((s.data.toList.drop i).all isTagB && decide (s.size ≤ 16)) := by
  have hL : s.data.toList.length = s.size := (Lib.size_eq s).symm
  intro d
  induction d with
  | zero =>
    intro i hi
    rw [List.drop_eq_nil_of_le (by omega), List.all_nil, Bool.true_and]
    refine Ev.step (f := fun _ => some (decide (s.size ≤ 16))) (fun k => ?_) (Ev.now _)
    simp only [tithebarnref13_tag.l0]
    rw [if_neg (by omega)]
    congr 1
    exact decide_eq_decide.2 (by omega)
  | succ d ih =>
    intro i hi
    have hil : i < s.data.toList.length := by omega
    have hb := bt_nat s i hil
    rw [List.drop_eq_getElem_cons hil, List.all_cons]
    have ht := isTagB_int (s.data.toList[i]'hil)
    generalize s.data.toList[i]'hil = b at *
    by_cases hg : isTagB b = true
    · rw [hg, Bool.true_and]
      have hr := ht.1 hg
      refine Ev.step (fun k => ?_) (ih (i + 1) (by omega))
      simp only [tithebarnref13_tag.l0]
      rw [if_pos (by omega), if_pos (by omega), hb, wrap_id (by omega) (by omega)]
      by_cases c1 : (b.toNat : Int) < 97
      · rw [if_pos c1, if_neg (by omega), if_neg (by omega)]; rfl
      · rw [if_neg c1, if_neg (by omega)]; rfl
    · have hr : ¬ ((97 ≤ (b.toNat : Int) ∧ (b.toNat : Int) ≤ 122) ∨ (48 ≤ (b.toNat : Int) ∧ (b.toNat : Int) ≤ 57)) := fun h => hg (ht.2 h)
      rw [Bool.eq_false_iff.2 hg, Bool.false_and, Bool.false_and]
      refine Ev.step (f := fun _ => some false) (fun k => ?_) (Ev.now _)
      simp only [tithebarnref13_tag.l0]
      rw [if_pos (by omega), if_pos (by omega), hb]
      by_cases c1 : (b.toNat : Int) < 97
      · rw [if_pos c1]
        by_cases c2 : (b.toNat : Int) < 48
        · rw [if_pos c2]
        · rw [if_neg c2, if_pos (by omega)]
      · rw [if_neg c1, if_pos (by omega), if_neg (by omega), if_pos (by omega)]
theorem tag_ev (s : ByteArray) (hs : s.size ≤ 1000000) : Ev (fun k => tithebarnref13_tag.f k s) (tagB s.data.toList) := by
  have h := tag_l0 s hs s.size 0 (by omega)
  rw [List.drop_zero] at h
  have e : tagB s.data.toList = (s.data.toList.all isTagB && decide (s.size ≤ 16)) := by
    unfold tagB
    rw [Bool.and_comm, ← Lib.size_eq]
  rw [e]
  exact h
def nzB (s : ByteArray) : Bool := (s.data.toList == [48]) || (decide (0 < s.size) && (s.data.toList.head? != some 48))
theorem isDig_int (b : UInt8) : isDig b = true ↔ 48 ≤ (b.toNat : Int) ∧ (b.toNat : Int) ≤ 57 := by
  unfold isDig
  simp
  omega
theorem number_l0 (s : ByteArray) (hs : s.size ≤ 1000000) : ∀ (d i acc : Nat), i + d = s.size → i ≤ 9 → acc < 10 ^ i →
    Ev (fun k => tithebarnref13_number.l0 k s (acc : Int) (i : Int)) (if ((s.data.toList.drop i).all isDig && decide (s.size ≤ 9)) = true then ((valF acc (s.data.toList.drop i) : Int), nzB s) else (0, false)) := by
  have hL : s.data.toList.length = s.size := (Lib.size_eq s).symm
  intro d
  induction d with
  | zero =>
    intro i acc hi h9 ha
    rw [List.drop_eq_nil_of_le (by omega), List.all_nil, Bool.true_and, decide_eq_true (by omega), if_pos rfl]
    refine Ev.step (f := fun _ => some ((acc : Int), nzB s)) (fun k => ?_) (Ev.now _)
    simp only [tithebarnref13_number.l0]
    rw [if_neg (by omega), ByteArray.toList_eq]
    unfold nzB
    by_cases c1 : s.data.toList = [48]
    · rw [if_pos c1, c1]; rfl
    · rw [if_neg c1]
      have c1' : (s.data.toList == [48]) = false := by simpa using c1
      rw [c1', Bool.false_or]
      by_cases c2 : (s.size : Int) > 0
      · rw [if_pos c2, if_pos c2]
        have hb := bt_nat s 0 (by omega)
        have e : bt s 0 = ((s.data.toList[0]'(by omega)).toNat : Int) := hb
        rw [e, decide_eq_true (by omega), Bool.true_and]
        have hh : s.data.toList.head? = some (s.data.toList[0]'(by omega)) := by
          rw [List.head?_eq_getElem?, List.getElem?_eq_getElem (by omega)]
        rw [hh]
        generalize s.data.toList[0]'(by omega) = b
        congr 2
        rw [Bool.eq_iff_iff]
        simp only [bne_iff_ne, ne_eq, Option.some.injEq]
        constructor
        · intro h hb; apply h; rw [hb]; rfl
        · intro h hb; apply h; exact UInt8.toNat_inj.1 (by have : (48 : UInt8).toNat = 48 := rfl; omega)
      · rw [if_neg c2, decide_eq_false (by omega), Bool.false_and]
  | succ d ih =>
    intro i acc hi h9 ha
    have hil : i < s.data.toList.length := by omega
    have hb := bt_nat s i hil
    rw [List.drop_eq_getElem_cons hil, List.all_cons]
    have ht := isDig_int (s.data.toList[i]'hil)
    generalize s.data.toList[i]'hil = b at *
    by_cases hg : isDig b = true
    · have hr := ht.1 hg
      rw [hg, Bool.true_and]
      by_cases h8 : i = 9
      · rw [decide_eq_false (show ¬ s.size ≤ 9 by omega), Bool.and_false, if_neg (by decide)]
        refine Ev.step (f := fun _ => some (0, false)) (fun k => ?_) (Ev.now _)
        simp only [tithebarnref13_number.l0]
        rw [if_pos (by omega), if_pos (by omega), hb, if_neg (by omega), if_neg (by omega), if_pos (by omega)]
      · have hp : 10 ^ (i + 1) = 10 ^ i * 10 := Nat.pow_succ ..
        have hp8 : 10 ^ i ≤ 10 ^ 8 := Nat.pow_le_pow_right (by omega) (by omega)
        have := ih (i + 1) (acc * 10 + (b.toNat - 48)) (by omega) (by omega) (by omega)
        rw [valF_cons]
        refine Ev.step (fun k => ?_) this
        simp only [tithebarnref13_number.l0]
        rw [if_pos (by omega), if_pos (by omega), hb, if_neg (by omega), if_neg (by omega), if_neg (by omega), wrap_id (x := (acc : Int) * 10) (by omega) (by omega), wrap_id (x := (acc : Int) * 10 + _) (by omega) (by omega), wrap_id (x := (i : Int) + 1) (by omega) (by omega)]
        congr 1
        omega
    · have hr : ¬ (48 ≤ (b.toNat : Int) ∧ (b.toNat : Int) ≤ 57) := fun h => hg (ht.2 h)
      rw [Bool.eq_false_iff.2 hg, Bool.false_and, Bool.false_and, if_neg (by decide)]
      refine Ev.step (f := fun _ => some (0, false)) (fun k => ?_) (Ev.now _)
      simp only [tithebarnref13_number.l0]
      rw [if_pos (by omega), if_pos (by omega), hb]
      by_cases c1 : (b.toNat : Int) < 48
      · rw [if_pos c1]
      · rw [if_neg c1, if_pos (by omega)]
theorem number_ev (s : ByteArray) (hs : s.size ≤ 1000000) : ∃ v : Int, Ev (fun k => tithebarnref13_number.f k s) (v, canonB s.data.toList) ∧ (canonB s.data.toList = true → v = valF 0 s.data.toList) := by
  have h := number_l0 s hs s.size 0 0 (by omega) (by omega) (by decide)
  rw [List.drop_zero] at h
  have hL : s.data.toList.length = s.size := (Lib.size_eq s).symm
  by_cases c : (s.data.toList.all isDig && decide (s.size ≤ 9)) = true
  · rw [if_pos c] at h
    have e : nzB s = canonB s.data.toList := by
      simp only [Bool.and_eq_true, decide_eq_true_eq] at c
      unfold nzB canonB
      rw [c.1, hL, decide_eq_true c.2, Bool.true_and, Bool.and_true]
      cases hl : s.data.toList with
      | nil => rw [hl] at hL; simp at hL; simp [← hL]
      | cons x r =>
        rw [hl] at hL
        simp only [List.length_cons] at hL
        rw [decide_eq_true (show 0 < s.size by omega), decide_eq_true (show 1 ≤ s.size by omega)]
        simp
    rw [e] at h
    exact ⟨_, h, fun _ => rfl⟩
  · rw [if_neg c] at h
    have e : canonB s.data.toList = false := by
      rw [Bool.eq_false_iff]
      intro hc
      apply c
      unfold canonB at hc
      simp only [Bool.and_eq_true, decide_eq_true_eq] at hc ⊢
      exact ⟨hc.1.1.1, by omega⟩
    rw [e]
    exact ⟨_, h, fun h => by cases h⟩
end Go.Proofs.YtnbmdecehlljcaaGreatDoor
