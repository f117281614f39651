/- Plain law: RangesPrint. -/
import Derived.Test.YtnbmdecehlljcaaGreatDoorRnU
import Derived.Test.YtnbmdecehlljcaaGreatDoorPRqx15
namespace Go.Proofs.YtnbmdecehlljcaaGreatDoor
open Go.RowKit Go.Lib Go.Proofs.YtnbmdecehlljcaaGreatDoorW.PrintWords Go.Proofs.YtnbmdecehlljcaaGreatDoorW.PrintLast Go.Proofs.YtnbmdecehlljcaaGreatDoorW.PrintMore PRq
set_option linter.unusedVariables false
set_option linter.unusedSimpArgs false
def RowLim (row : List PRq.S59) : Prop := row.length ≤ 1000 ∧ ∀ b ∈ row, b.f1.size ≤ 1000
def Lim (l : List (List PRq.S59)) : Prop := l.length ≤ 1000 ∧ ∀ row ∈ l, RowLim row
theorem small_l1 (l : List (List PRq.S59)) (hl : l.length ≤ 1000) (i : Nat) (hi : i < l.length) (hr : l[i].length ≤ 1000)
    (h : ∀ n : Nat, n ≤ 1000 → ∃ b, Ev (fun k => tithebarnkit_SmallRange.l0 k l 1000 (n : Int) ((i + 1 : Nat) : Int)) b ∧ (b = true → ∀ q (hq : q < l.length), i + 1 ≤ q → RowLim l[q])) : ∀ (d j n : Nat), j + d = l[i].length → n ≤ 1000 →
    ∃ b, Ev (fun k => tithebarnkit_SmallRange.l1 k l 1000 (n : Int) (i : Int) (j : Int)) b ∧ (b = true → (∀ q (hq : q < l[i].length), j ≤ q → l[i][q].f1.size ≤ 1000) ∧ ∀ q (hq : q < l.length), i + 1 ≤ q → RowLim l[q]) := by
  have hrd := rdL_nat l i hi
  intro d
  induction d with
  | zero =>
    intro j n hj hn
    obtain ⟨b, hb, hc⟩ := h n hn
    refine ⟨b, Ev.step (fun k => ?_) hb, fun e => ⟨fun q hq hjq => by omega, hc e⟩⟩
    simp only [tithebarnkit_SmallRange.l1]
    rw [if_pos (by omega), if_pos (by omega), hrd, if_neg (by omega), wrap_id (by omega) (by omega)]
    rfl
  | succ d ih =>
    intro j n hj hn
    have hjl : j < l[i].length := by omega
    have hb := rdT_nat l[i] j hjl
    by_cases hs : l[i][j].f1.size ≤ 1000 - n
    · obtain ⟨b, h1, h2⟩ := ih (j + 1) (n + l[i][j].f1.size) (by omega) (by omega)
      refine ⟨b, Ev.step (fun k => ?_) h1, fun e => ⟨fun q hq hjq => ?_, (h2 e).2⟩⟩
      · simp only [tithebarnkit_SmallRange.l1]
        rw [if_pos (by omega), if_pos (by omega), hrd, if_pos (by omega), if_pos (by omega), hb, wrap_id (by omega) (by omega), if_neg (by omega), wrap_id (by omega) (by omega), wrap_id (by omega) (by omega)]
        rfl
      · by_cases e2 : q = j
        · subst e2
          omega
        · exact (h2 e).1 q hq (by omega)
    · refine ⟨false, Ev.step (f := fun _ => some false) (fun k => ?_) (Ev.now _), fun e => by cases e⟩
      simp only [tithebarnkit_SmallRange.l1]
      rw [if_pos (by omega), if_pos (by omega), hrd, if_pos (by omega), if_pos (by omega), hb, wrap_id (by omega) (by omega), if_pos (by omega)]
theorem small_l0 (l : List (List PRq.S59)) (hl : l.length ≤ 1000) : ∀ (d i n : Nat), i + d = l.length → n ≤ 1000 →
    ∃ b, Ev (fun k => tithebarnkit_SmallRange.l0 k l 1000 (n : Int) (i : Int)) b ∧ (b = true → ∀ q (hq : q < l.length), i ≤ q → RowLim l[q]) := by
  intro d
  induction d with
  | zero =>
    intro i n hi hn
    refine ⟨true, Ev.step (f := fun _ => some true) (fun k => ?_) (Ev.now _), fun _ q hq hiq => by omega⟩
    simp only [tithebarnkit_SmallRange.l0]
    rw [if_neg (by omega)]
  | succ d ih =>
    intro i n hi hn
    have hil : i < l.length := by omega
    have hrd := rdL_nat l i hil
    by_cases hs : l[i].length ≤ 1000 - n
    · obtain ⟨b, h1, h2⟩ := small_l1 l hl i hil (by omega) (fun n' hn' => ih (i + 1) n' (by omega) hn') l[i].length 0 (n + l[i].length) (by omega) (by omega)
      refine ⟨b, Ev.step (fun k => ?_) h1, fun e q hq hiq => ?_⟩
      · simp only [tithebarnkit_SmallRange.l0]
        rw [if_pos (by omega), if_pos (by omega), hrd, wrap_id (by omega) (by omega), if_neg (by omega), wrap_id (by omega) (by omega)]
        rfl
      · by_cases e2 : q = i
        · subst e2
          refine ⟨by omega, fun b hb => ?_⟩
          obtain ⟨j, hj, e3⟩ := List.getElem_of_mem hb
          rw [← e3]
          exact (h2 e).1 j hj (Nat.zero_le _)
        · exact (h2 e).2 q hq (by omega)
    · refine ⟨false, Ev.step (f := fun _ => some false) (fun k => ?_) (Ev.now _), fun e => by cases e⟩
      simp only [tithebarnkit_SmallRange.l0]
      rw [if_pos (by omega), if_pos (by omega), hrd, wrap_id (by omega) (by omega), if_pos (by omega)]
theorem Small_ev (l : List (List PRq.S59)) : ∃ b, Ev (fun k => tithebarnkit_SmallRange.f k l 1000) b ∧ (b = true → Lim l) := by
  by_cases hl : l.length ≤ 1000
  · obtain ⟨b, h1, h2⟩ := small_l0 l hl l.length 0 0 (by omega) (by omega)
    refine ⟨b, Ev.congr (fun k => ?_) h1, fun e => ⟨hl, fun row hr => ?_⟩⟩
    · unfold tithebarnkit_SmallRange.f
      rw [if_neg (by omega)]
      rfl
    · obtain ⟨q, hq, e3⟩ := List.getElem_of_mem hr
      rw [← e3]
      exact h2 e q hq (Nat.zero_le _)
  · refine ⟨false, Ev.congr (f := fun _ => some false) (fun k => ?_) (Ev.now _), fun e => by cases e⟩
    unfold tithebarnkit_SmallRange.f
    rw [if_pos (by omega)]
theorem Lim.small {l : List (List PRq.S59)} (h : Lim l) : SmallR l := fun row hr b hb => by have := (h.2 row hr).2 b hb; omega
theorem Lim.small5 {l : List (List PRq.S59)} (h : Lim l) : Small5 l := fun row hr b hb => by have := (h.2 row hr).2 b hb; omega
/-! #### the reference's Print -/
theorem wfR_of {l : List (List PRq.S59)} (h : ∀ y0 ∈ l, ∀ y1 ∈ y0, (Lit.int .u8 y1.f0).wf = true) : WfR l := fun row hr b hb => by
  have := h row hr b hb
  unfold Lit.wf at this
  rw [Bool.and_eq_true] at this
  exact of_decide_eq_true this.1
end Go.Proofs.YtnbmdecehlljcaaGreatDoor
