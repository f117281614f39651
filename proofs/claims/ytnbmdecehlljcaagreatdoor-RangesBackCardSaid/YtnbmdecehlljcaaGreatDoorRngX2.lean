/- Plain law: RangesPrint. -/
import Derived.Test.YtnbmdecehlljcaaGreatDoorRnU
import Derived.Test.YtnbmdecehlljcaaGreatDoorPRqx15
namespace Go.Proofs.YtnbmdecehlljcaaGreatDoor
open Go.RowKit Go.Lib Go.Proofs.YtnbmdecehlljcaaGreatDoorW.PrintWords Go.Proofs.YtnbmdecehlljcaaGreatDoorW.PrintLast Go.Proofs.YtnbmdecehlljcaaGreatDoorW.PrintMore PRq
set_option linter.unusedVariables false
set_option linter.unusedSimpArgs false
def RowLim (row : List PRq.S59) : Prop := row.length ≤ 1000 ∧ ∀ b ∈ row, b.f1.size ≤ 1000
def Lim (l : List (List PRq.S59)) : Prop := l.length ≤ 1000 ∧ ∀ row ∈ l, RowLim row
theorem small_l1 (l : List (List PRq.S59)) (hl : l.length ≤ 1000) (i : Nat) (hi : i < l.length) (hr : l[i].length ≤ 1000)
    (h : ∀ n : Nat, n ≤ 1000 → ∃ b, Ev (fun k => tithebarnkit_SmallRange.l0 k l 1000 (n : Int) ((i + 1 : Nat) : Int)) b ∧ (b = true → ∀ q (hq : q < l.length), i + 1 ≤ q → RowLim l[q])) : ∀ (d j n : Nat), j + d = l[i].length → n ≤ 1000 →
    ∃ b, Ev (fun k => tithebarnkit_SmallRange.l1 k l 1000 (n : Int) (i : Int) (j : Int)) b ∧ (b = true → (∀ q (hq : q < l[i].length), j ≤ q → l[i][q].f1.size ≤ 1000) ∧ ∀ q (hq : q < l.length), i + 1 ≤ q → RowLim l[q]) := by
  have hrd := rdL_nat l i hi
  intro d
  induction d with
  | zero =>
    intro j n hj hn
    obtain ⟨b, hb, hc⟩ := h n hn
    refine ⟨b, Ev.step (fun k => ?_) hb, fun e => ⟨fun q hq hjq => by omega, hc e⟩⟩
    simp only [tithebarnkit_SmallRange.l1]
    rw [if_pos (by omega), if_pos (by omega), hrd, if_neg (by omega), wrap_id (by omega) (by omega)]
    rfl
  | succ d ih =>
    intro j n hj hn
    have hjl : j < l[i].length := by omega
    have hb := rdT_nat l[i] j hjl
    by_cases hs : l[i][j].f1.size ≤ 1000 - n
    · obtain ⟨b, h1, h2⟩ := ih (j + 1) (n + l[i][j].f1.size) (by omega) (by omega)
      refine ⟨b, Ev.step (fun k => ?_) h1, fun e => ⟨fun q hq hjq => ?_, (h2 e).2⟩⟩
      · simp only [tithebarnkit_SmallRange.l1]
        rw [if_pos (by omega), if_pos (by omega), hrd, if_pos (by omega), if_pos (by omega), hb, wrap_id (by omega) (by omega), if_neg (by omega), wrap_id (by omega) (by omega), wrap_id (by omega) (by omega)]
        rfl
      · by_cases e2 : q = j
        · subst e2
          omega
        · exact (h2 e).1 q hq (by omega)
    · refine ⟨false, Ev.step (f := fun _ => some false) (fun k => ?_) (Ev.now _), fun e => by cases e⟩
      simp only [tithebarnkit_SmallRange.l1]
      rw [if_pos (by omega), if_pos (by omega), hrd, if_pos (by omega), if_pos (by omega), hb, wrap_id (by omega) (by omega), if_pos (by omega)]
theorem small_l0 (l : List (List PRq.S59)) (hl : l.length ≤ 1000) : ∀ (d i n : Nat), i + d = l.length → n ≤ 1000 →
    ∃ b, Ev (fun k => tithebarnkit_SmallRange.l0 k l 1000 (n : Int) (i : Int)) b ∧ (b = true → ∀ q (hq : q < l.length), i ≤ q → RowLim l[q]) := by
  intro d
  induction d with
  | zero =>
    intro i n hi hn
    refine ⟨true, Ev.step (f := fun _ => some true) (fun k => ?_) (Ev.now _), fun _ q hq hiq => by omega⟩
    simp only [tithebarnkit_SmallRange.l0]
    rw [if_neg (by omega)]
  | succ d ih =>
    intro i n hi hn
    have hil : i < l.length := by omega
    have hrd := rdL_nat l i hil
    by_cases hs : l[i].length ≤ 1000 - n
    · obtain ⟨b, h1, h2⟩ := small_l1 l hl i hil (by omega) (fun n' hn' => ih (i + 1) n' (by omega) hn') l[i].length 0 (n + l[i].length) (by omega) (by omega)
      refine ⟨b, Ev.step (fun k => ?_) h1, fun e q hq hiq => ?_⟩
      · simp only [tithebarnkit_SmallRange.l0]
        rw [if_pos (by omega), if_pos (by omega), hrd, wrap_id (by omega) (by omega), if_neg (by omega), wrap_id (by omega) (by omega)]
        rfl
      · by_cases e2 : q = i
        · subst e2
          refine ⟨by omega, fun b hb => ?_⟩
          obtain ⟨j, hj, e3⟩ := List.getElem_of_mem hb
          rw [← e3]
          exact (h2 e).1 j hj (Nat.zero_le _)
        · exact (h2 e).2 q hq (by omega)
    · refine ⟨false, Ev.step (f := fun _ => some false) (fun k => ?_) (Ev.now _), fun e => by cases e⟩
      simp only [tithebarnkit_SmallRange.l0]
      rw [if_pos (by omega), if_pos (by omega), hrd, wrap_id (by omega) (by omega), if_pos (by omega)]
theorem Small_ev (l : List (List PRq.S59)) : ∃ b, Ev (fun k => tithebarnkit_SmallRange.f k l 1000) b ∧ (b = true → Lim l) := by
  by_cases hl : l.length ≤ 1000
  · obtain ⟨b, h1, h2⟩ := small_l0 l hl l.length 0 0 (by omega) (by omega)
    refine ⟨b, Ev.congr (fun k => ?_) h1, fun e => ⟨hl, fun row hr => ?_⟩⟩
    · unfold tithebarnkit_SmallRange.f
      rw [if_neg (by omega)]
      rfl
    · obtain ⟨q, hq, e3⟩ := List.getElem_of_mem hr
      rw [← e3]
      exact h2 e q hq (Nat.zero_le _)
  · refine ⟨false, Ev.congr (f := fun _ => some false) (fun k => ?_) (Ev.now _), fun e => by cases e⟩
    unfold tithebarnkit_SmallRange.f
    rw [if_pos (by omega)]
theorem Lim.small {l : List (List PRq.S59)} (h : Lim l) : SmallR l := fun row hr b hb => by have := (h.2 row hr).2 b hb; omega
theorem Lim.small5 {l : List (List PRq.S59)} (h : Lim l) : Small5 l := fun row hr b hb => by have := (h.2 row hr).2 b hb; omega
/-! #### the reference's Print -/
theorem rp_l1 (l : List (List PRq.S59)) (hl : l.length ≤ 16) (i : Nat) (hi : i < l.length) (hr : l[i].length ≤ 16) (hb : ∀ b ∈ l[i], 0 ≤ b.f0 ∧ b.f0 ≤ 7 ∧ b.f1.size ≤ 1000000) (pre : List UInt8) (hp : pre.length ≤ 1000000000) (r : ByteArray × Int)
    (h : Ev (fun k => tithebarnref14_Print.l0 k l ⟨(pre ++ rowT l[i]).toArray⟩ ((i + 1 : Nat) : Int)) r) : ∀ (d j : Nat), j + d = l[i].length →
    Ev (fun k => tithebarnref14_Print.l1 k l ⟨(pre ++ joinOn 44 ((l[i].take j).map boundT)).toArray⟩ (i : Int) (j : Int)) r := by
  have hrd := rdL_nat l i hi
  intro d
  induction d with
  | zero =>
    intro j hj
    have e : j = l[i].length := by omega
    subst e
    rw [List.take_length]
    refine Ev.step (fun k => ?_) h
    simp only [tithebarnref14_Print.l1]
    rw [if_pos (by omega), if_pos (by omega), hrd, if_neg (by omega), wrap_id (by omega) (by omega)]
    rfl
  | succ d ih =>
    intro j hj
    have hjl : j < l[i].length := by omega
    have hrb := rdT_nat l[i] j hjl
    have hJ := joinOn_le 44 1000002 ((l[i].take j).map boundT) (fun q hq => by
      obtain ⟨b, hb1, rfl⟩ := List.mem_map.1 hq
      exact boundT_len b (hb b (List.mem_of_mem_take hb1)).2.2)
    rw [List.length_map, List.length_take] at hJ
    have hJ2 : (1000002 + 1) * min j l[i].length ≤ (1000002 + 1) * 16 := Nat.mul_le_mul_left _ (by omega)
    have ih2 := ih (j + 1) (by omega)
    obtain ⟨h0, h7, hs⟩ := hb l[i][j] (List.getElem_mem hjl)
    have hsf := sign_f l[i][j].f0 h0 (by omega)
    have hsz := ba_size (rdOf ByteArray.empty signsL l[i][j].f0)
    have hsg := sign_size l[i][j].f0
    rw [take_snocR l[i] j hjl, List.map_append] at ih2
    generalize hbj : l[i][j] = b at *
    have hA : (⟨(pre ++ joinOn 44 ((l[i].take j).map boundT)).toArray⟩ : ByteArray).size ≤ 1100000000 := by
      rw [ba_size]
      show (pre ++ joinOn 44 ((l[i].take j).map boundT)).length ≤ _
      rw [List.length_append]
      omega
    have hbt : boundT b = (rdOf ByteArray.empty signsL b.f0).data.toList ++ (if b.f0 = 0 then [] else b.f1.data.toList) := rfl
    by_cases hj0 : j = 0
    · subst hj0
      rw [List.take_zero, List.map_nil] at ih2 hA ⊢
      simp only [joinOn, List.append_nil, List.map_cons, List.map_nil, List.nil_append] at ih2 hA ⊢
      refine Ev.step (fun k => ?_) ih2
      simp only [tithebarnref14_Print.l1]
      rw [if_pos (by omega), if_pos (by omega), hrd, if_pos (by omega), if_neg (by omega), if_pos (by omega), hrb, hsf, Option.bind_some, if_pos (by omega)]
      by_cases c0 : b.f0 = 0
      · rw [if_pos c0, wrap_id (by omega) (by omega)]
        congr 1
        apply ByteArray.ext
        apply Array.ext'
        rw [hbt, if_pos c0]
        simp [ByteArray.data_append]
      · rw [if_neg c0, if_pos (by rw [ByteArray.size_append]; omega), wrap_id (by omega) (by omega)]
        congr 1
        apply ByteArray.ext
        apply Array.ext'
        rw [hbt, if_neg c0]
        simp [ByteArray.data_append]
    · have hne : (l[i].take j).map boundT ≠ [] := by
        intro h
        have := congrArg List.length h
        rw [List.length_map, List.length_take, List.length_nil] at this
        omega
      rw [List.map_cons, List.map_nil, joinOn_snoc 44 _ _ hne] at ih2
      have hA2 : ((⟨(pre ++ joinOn 44 ((l[i].take j).map boundT)).toArray⟩ : ByteArray) ++ (⟨#[44]⟩ : ByteArray)).size ≤ 1100000001 := by
        rw [ByteArray.size_append]
        show _ + 1 ≤ _
        omega
      refine Ev.step (fun k => ?_) ih2
      simp only [tithebarnref14_Print.l1]
      rw [if_pos (by omega), if_pos (by omega), hrd, if_pos (by omega), if_pos (by omega), if_pos (by omega), if_pos (by omega), hrb, hsf, Option.bind_some, if_pos (by omega)]
      by_cases c0 : b.f0 = 0
      · rw [if_pos c0, wrap_id (by omega) (by omega)]
        congr 1
        apply ByteArray.ext
        apply Array.ext'
        rw [hbt, if_pos c0]
        simp [ByteArray.data_append]
      · rw [if_neg c0, if_pos (by rw [ByteArray.size_append]; omega), wrap_id (by omega) (by omega)]
        congr 1
        apply ByteArray.ext
        apply Array.ext'
        rw [hbt, if_neg c0]
        simp [ByteArray.data_append]
theorem rp_l0 (l : List (List PRq.S59)) (hl : l.length ≤ 16) (hrow : ∀ row ∈ l, row.length ≤ 16 ∧ ∀ b ∈ row, 0 ≤ b.f0 ∧ b.f0 ≤ 7 ∧ b.f1.size ≤ 1000000) : ∀ (d i : Nat), i + d = l.length →
    Ev (fun k => tithebarnref14_Print.l0 k l ⟨(joinOn 124 ((l.take i).map rowT)).toArray⟩ (i : Int)) (⟨(joinOn 124 (l.map rowT)).toArray⟩, 0) := by
  have hR : ∀ row ∈ l, (rowT row).length ≤ 16000048 := fun row hr => by
    have h1 := joinOn_le 44 1000002 (row.map boundT) (fun q hq => by
      obtain ⟨b, hb1, rfl⟩ := List.mem_map.1 hq
      exact boundT_len b ((hrow row hr).2 b hb1).2.2)
    rw [List.length_map] at h1
    have h2 : (1000002 + 1) * row.length ≤ (1000002 + 1) * 16 := Nat.mul_le_mul_left _ (hrow row hr).1
    unfold rowT
    omega
  intro d
  induction d with
  | zero =>
    intro i hi
    have e : i = l.length := by omega
    subst e
    rw [List.take_length]
    refine Ev.step (f := fun _ => some ((⟨(joinOn 124 (l.map rowT)).toArray⟩ : ByteArray), (0 : Int))) (fun k => ?_) (Ev.now _)
    simp only [tithebarnref14_Print.l0]
    rw [if_neg (by omega)]
  | succ d ih =>
    intro i hi
    have hil : i < l.length := by omega
    have hJ := joinOn_le 124 16000048 ((l.take i).map rowT) (fun q hq => by
      obtain ⟨row, hr, rfl⟩ := List.mem_map.1 hq
      exact hR row (List.mem_of_mem_take hr))
    rw [List.length_map, List.length_take] at hJ
    have hJ2 : (16000048 + 1) * min i l.length ≤ (16000048 + 1) * 16 := Nat.mul_le_mul_left _ (by omega)
    obtain ⟨h1, h2⟩ := hrow l[i] (List.getElem_mem hil)
    have ih2 := ih (i + 1) (by omega)
    rw [take_snocR l i hil, List.map_append, List.map_cons, List.map_nil] at ih2
    have hA := ba_size ⟨(joinOn 124 ((l.take i).map rowT)).toArray⟩
    simp only [] at hA
    by_cases hi0 : i = 0
    · subst hi0
      rw [List.take_zero, List.map_nil] at ih2 ⊢
      simp only [joinOn, List.nil_append] at ih2 ⊢
      have h3 := rp_l1 l hl 0 hil h1 h2 [] (by simp) _ ih2 l[0].length 0 (by omega)
      refine Ev.step (f := fun k => tithebarnref14_Print.j1 k l ⟨#[]⟩ ((0 : Nat) : Int)) (fun k => ?_) (Ev.step (fun k => ?_) h3)
      · simp only [tithebarnref14_Print.l0]
        rw [if_pos (by omega), if_neg (by omega)]
      · simp only [tithebarnref14_Print.j1]
        rfl
    · have hne : (l.take i).map rowT ≠ [] := by
        intro h
        have := congrArg List.length h
        rw [List.length_map, List.length_take, List.length_nil] at this
        omega
      rw [joinOn_snoc 124 _ _ hne] at ih2
      have h3 := rp_l1 l hl i hil h1 h2 (joinOn 124 ((l.take i).map rowT) ++ [124]) (by rw [List.length_append, List.length_singleton]; omega) _ (by rw [List.append_assoc]; exact ih2) l[i].length 0 (by omega)
      refine Ev.step (f := fun k => tithebarnref14_Print.j1 k l ((⟨(joinOn 124 ((l.take i).map rowT)).toArray⟩ : ByteArray) ++ (⟨#[124]⟩ : ByteArray)) (i : Int)) (fun k => ?_) (Ev.step (fun k => ?_) h3)
      · simp only [tithebarnref14_Print.l0]
        rw [if_pos (by omega), if_pos (by omega), if_pos (by omega)]
      · simp only [tithebarnref14_Print.j1, List.take_zero, List.map_nil, joinOn, List.append_nil]
        show tithebarnref14_Print.l1 k l _ (i : Int) ((0 : Nat) : Int) = _
        congr 1
theorem rPrint_ev (l : List (List PRq.S59)) (h : Lim l) (hw : WfR l) : Ev (fun k => tithebarnref14_Print.f k l) (printR l) := by
  have hm := May_ev l (by have := h.1; omega) (fun row hr => by have := (h.2 row hr).1; omega) h.small5
  refine Ev.bind (g := fun k => tithebarnref14_May.f k l) hm ?_
  unfold printR
  cases hr : rightV l with
  | false => exact Ev.ite_neg (by decide) (Ev.now _)
  | true =>
    refine Ev.ite_pos rfl ?_
    rw [if_pos rfl]
    by_cases h0 : l.length = 0
    · rw [if_pos h0]
      exact Ev.ite_pos (by omega) (Ev.now _)
    · rw [if_neg h0]
      refine Ev.ite_neg (by omega) ?_
      obtain ⟨h1, h2⟩ := right_rows hr h.small hw
      exact rp_l0 l h1 h2 l.length 0 (by omega)
theorem print_law (l : List (List PRq.S59)) (h : Lim l) (hw : WfR l) : ∀ (d i : Nat), i + d = l.length → Ev (fun k => PRq.tithebarnlaw14_RangesPrint.l0 k l (l.take i) (i : Int)) true := by
  intro d
  induction d with
  | zero =>
    intro i hi
    have e : i = l.length := by omega
    subst e
    rw [List.take_length]
    refine Ev.step (f := fun k => (PRq.ranges_Print.f k l).bind fun bt231 => ((tithebarnref14_Print.f k l).bind fun bt233 => (if bt231.1.toList = bt233.1.toList then (if bt231.2 = bt233.2 then ((tithebarnkit_SameRange.f k l l).bind fun t235 => (if t235 = true then ((tithebarnlaw14_works.f).bind fun t236 => (some t236)) else (some false))) else (some false)) else (some false)))) (fun k => ?_)
      (Ev.bind (Print_ev l h.small hw) (Ev.bind (rPrint_ev l h hw) (Ev.ite_pos rfl (Ev.ite_pos rfl (Ev.bind (Same_ev l (by have := h.1; omega) (fun row hr => by have := (h.2 row hr).1; omega)) (Ev.ite_pos rfl (Ev.const rfl)))))))
    simp only [PRq.tithebarnlaw14_RangesPrint.l0]
    rw [if_neg (by omega)]
  | succ d ih =>
    intro i hi
    have hil : i < l.length := by omega
    have hrd := rdL_nat l i hil
    have h1 := (h.2 _ (List.getElem_mem hil)).1
    have h2 := h.1
    have ih2 := ih (i + 1) (by omega)
    rw [take_snocR l i hil] at ih2
    refine Ev.step (fun k => ?_) ih2
    simp only [PRq.tithebarnlaw14_RangesPrint.l0]
    rw [if_pos (by omega), Option.bind_some, if_pos (by omega), hrd, if_pos (by simp only [List.length_nil]; omega), if_pos (by rw [List.length_take]; omega), wrap_id (by omega) (by omega)]
    rfl
theorem true_RangesPrint (l : List (List PRq.S59)) (hw : WfR l) : Ev (fun k => PRq.tithebarnlaw14_RangesPrint.f k l) true := by
  obtain ⟨b, h1, h2⟩ := Small_ev l
  refine Ev.bind (g := fun k => tithebarnkit_SmallRange.f k l 1000) h1 ?_
  cases b with
  | false => exact Ev.ite_neg (by decide) (Ev.const rfl)
  | true => exact Ev.ite_pos rfl (print_law l (h2 rfl) hw l.length 0 (by omega))
theorem wfR_of {l : List (List PRq.S59)} (h : ∀ y0 ∈ l, ∀ y1 ∈ y0, (Lit.int .u8 y1.f0).wf = true) : WfR l := fun row hr b hb => by
  have := h row hr b hb
  unfold Lit.wf at this
  rw [Bool.and_eq_true] at this
  exact of_decide_eq_true this.1
theorem pure_RangesPrint : ∀ (l0 : (List (List PRq.S59))), (l0.length ≤ maxLen ∧ ∀ y0 ∈ l0, (y0.length ≤ maxLen ∧ ∀ y1 ∈ y0, ((Lit.int .u8 y1.f0).wf = true ∧ y1.f1.size ≤ maxLen))) → ∃ k, PRq.tithebarnlaw14_RangesPrint.f k l0 = some true :=
  fun l0 h => Ev.rounds (g := fun k => PRq.tithebarnlaw14_RangesPrint.f k l0) (true_RangesPrint l0 (wfR_of fun y0 h0 y1 h1 => ((h.2 y0 h0).2 y1 h1).1))
end Go.Proofs.YtnbmdecehlljcaaGreatDoor
