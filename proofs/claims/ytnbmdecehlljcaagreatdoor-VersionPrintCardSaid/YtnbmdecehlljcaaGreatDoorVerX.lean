/- Plain law: VersionPrint. -/
import Derived.Test.YtnbmdecehlljcaaGreatDoorPVerx5
import Derived.Test.YtnbmdecehlljcaaGreatDoorVerS
namespace Go.Proofs.YtnbmdecehlljcaaGreatDoor
open Go.RowKit Go.Lib Go.Proofs.YtnbmdecehlljcaaGreatDoorW.PrintWords Go.Proofs.YtnbmdecehlljcaaGreatDoorW.PrintLast Go.Proofs.YtnbmdecehlljcaaGreatDoorW.PrintMore PVer
set_option linter.unusedVariables false
set_option linter.unusedSimpArgs false
theorem print_prog (l : List Int) (t : ByteArray) (hl : l.length ≤ 1000000) (ht : t.size ≤ 1000000) : version_Print.f l t = some (if okV l t.data.toList then (⟨(printV l t.data.toList).toArray⟩, 0) else (⟨#[]⟩, 130)) := by
  unfold version_Print.f
  rw [if_pos ⟨hl, ht⟩]
theorem one_num (d : Nat) (hd : d < 10) : strOfNums [(wrap64 (48 + (d : Int))) % 256] = ⟨#[UInt8.ofNat (48 + d)]⟩ := by
  have e : (wrap64 (48 + (d : Int))) % 256 = ((48 + d : Nat) : Int) := by rw [wrap_id (by omega) (by omega)]; omega
  rw [e]
  unfold strOfNums
  simp only [List.map_cons, List.map_nil, Int.toNat_natCast]
theorem digits_l0 : ∀ (m n : Nat) (acc : ByteArray), n < 10 ^ (m + 1) → m ≤ 9 → acc.size + m ≤ 1000 → Ev (fun k => tithebarnref13_digits.l0 k (n : Int) acc) (⟨(decDigits n ++ acc.data.toList).toArray⟩ : ByteArray) := by
  intro m
  induction m with
  | zero =>
    intro n acc hn _ ha
    have h10 : n < 10 := by simpa using hn
    have h1 := one_num n h10
    refine Ev.step (f := fun _ => some (⟨(decDigits n ++ acc.data.toList).toArray⟩ : ByteArray)) (fun k => ?_) (Ev.now _)
    simp only [tithebarnref13_digits.l0]
    rw [if_neg (by omega), Option.bind_some, h1, if_pos (by show 1 + acc.size ≤ _; omega), decDigits_one h10]
    congr 1
  | succ m ih =>
    intro n acc hn hm ha
    by_cases h10 : n < 10
    · have h1 := one_num n h10
      refine Ev.step (f := fun _ => some (⟨(decDigits n ++ acc.data.toList).toArray⟩ : ByteArray)) (fun k => ?_) (Ev.now _)
      simp only [tithebarnref13_digits.l0]
      rw [if_neg (by omega), Option.bind_some, h1, if_pos (by show 1 + acc.size ≤ _; omega), decDigits_one h10]
      congr 1
    · have hmod : n % 10 < 10 := Nat.mod_lt _ (by omega)
      have h1 := one_num (n % 10) hmod
      have hp : (10 : Nat) ^ 21 ≤ 9223372036854775807 ∨ True := .inr trivial
      have hdiv : n / 10 < 10 ^ (m + 1) := by
        rw [Nat.div_lt_iff_lt_mul (by omega)]
        rwa [Nat.pow_succ] at hn
      have := ih (n / 10) ((⟨#[UInt8.ofNat (48 + n % 10)]⟩ : ByteArray) ++ acc) hdiv (by omega) (by rw [ByteArray.size_append]; show 1 + acc.size + m ≤ 1000; omega)
      have e2 : decDigits (n / 10) ++ ((⟨#[UInt8.ofNat (48 + n % 10)]⟩ : ByteArray) ++ acc).data.toList = decDigits n ++ acc.data.toList := by
        conv => rhs; rw [decDigits, dif_neg h10]
        simp [ByteArray.data_append]
      rw [e2] at this
      have hdiv2 : (((n / 10 : Nat)) : Int) ≤ 9223372036854775807 ∨ 9223372036854775807 < (((n / 10 : Nat)) : Int) := by omega
      refine Ev.step (fun k => ?_) this
      simp only [tithebarnref13_digits.l0]
      have et : Int.tmod (n : Int) 10 = ((n % 10 : Nat) : Int) := by rw [Int.tmod_eq_emod_of_nonneg (by omega)]; omega
      have ed : Int.tdiv (n : Int) 10 = ((n / 10 : Nat) : Int) := by rw [Int.tdiv_eq_ediv_of_nonneg (by omega)]; omega
      have hb : (n / 10 : Nat) ≤ 9223372036854775807 := by
        have h : (10 : Nat) ^ (m + 1) ≤ 10 ^ 10 := Nat.pow_le_pow_right (by omega) (by omega)
        have : (10 : Nat) ^ 10 = 10000000000 := by decide
        omega
      rw [if_pos (by omega), Option.bind_some, et, h1, if_pos (by show 1 + acc.size ≤ _; omega), ed, wrap_id (by omega) (by omega)]
theorem digits_ev (n : Int) (h0 : 0 ≤ n) (h1 : n ≤ 999999999) : Ev (fun k => tithebarnref13_digits.f k n) (⟨(decDigits n.toNat).toArray⟩ : ByteArray) := by
  have h := digits_l0 8 n.toNat ⟨#[]⟩ (by have : (10 : Nat) ^ 9 = 1000000000 := by decide
                                          omega) (by omega) (by decide)
  rw [Int.toNat_of_nonneg h0] at h
  have e : (decDigits n.toNat ++ (⟨#[]⟩ : ByteArray).data.toList) = decDigits n.toNat := List.append_nil _
  rw [e] at h
  exact h
theorem joinOn_snoc (c : UInt8) : ∀ (ps : List (List UInt8)) (p : List UInt8), ps ≠ [] → joinOn c (ps ++ [p]) = joinOn c ps ++ c :: p
  | [], _, h => absurd rfl h
  | [a], p, _ => rfl
  | a :: b :: r, p, _ => by
    have ih := joinOn_snoc c (b :: r) p (by simp)
    show a ++ c :: joinOn c (b :: r ++ [p]) = _
    rw [ih]
    simp [joinOn]
def jB (l : List Int) (i : Nat) : ByteArray := ⟨(joinOn 46 ((l.take i).map fun n => decDigits n.toNat)).toArray⟩
theorem jB_size (l : List Int) (i : Nat) (h : (l.take i).all okN = true) : (jB l i).size ≤ 10 * l.length := by
  have h1 := joinOn_len 46 ((l.take i).map fun n => decDigits n.toNat) (fun p hp => by
    obtain ⟨n, hn, rfl⟩ := List.mem_map.1 hp
    have := List.all_eq_true.1 h n hn
    unfold okN at this
    simp only [Bool.and_eq_true, decide_eq_true_eq] at this
    exact dec_len _ (by omega))
  rw [List.length_map, List.length_take] at h1
  have : (jB l i).size = (joinOn 46 ((l.take i).map fun n => decDigits n.toNat)).length := by simp [jB, ByteArray.size]
  omega
theorem refprint_l0 (l : List Int) (t : ByteArray) (hl : 1 ≤ l.length ∧ l.length ≤ 8) (htl : t.size ≤ 1000) : ∀ (d i : Nat), i + d = l.length → (l.take i).all okN = true →
    Ev (fun k => tithebarnref13_Print.l0 k (jB l i) (i : Int) l t) (if l.all okN then (⟨(printV l t.data.toList).toArray⟩, 0) else (⟨#[]⟩, 130)) := by
  intro d
  induction d with
  | zero =>
    intro i hi ha
    have hsz := jB_size l i ha
    have e : i = l.length := by omega
    subst e
    have htk : l.take l.length = l := List.take_length
    have hj : jB l l.length = ⟨(joinOn 46 (l.map fun n => decDigits n.toNat)).toArray⟩ := by unfold jB; rw [htk]
    rw [htk] at ha
    rw [ha, if_pos rfl]
    refine Ev.step (f := fun _ => some ((⟨(printV l t.data.toList).toArray⟩ : ByteArray), (0 : Int))) (fun k => ?_) (Ev.now _)
    simp only [tithebarnref13_Print.l0]
    rw [if_neg (by omega), ByteArray.toList_eq]
    by_cases ht : t.data.toList = []
    · rw [if_pos ht, hj]
      unfold printV
      rw [if_pos ht, List.append_nil]
    · have hs2 : (jB l l.length ++ (⟨#[45]⟩ : ByteArray)).size = (jB l l.length).size + 1 := by rw [ByteArray.size_append]; rfl
      rw [if_neg ht, if_pos (by omega), if_pos (by rw [hs2]; omega), hj]
      congr 2
      unfold printV
      rw [if_neg ht]
      apply ByteArray.ext
      apply Array.ext'
      simp [ByteArray.data_append]
  | succ d ih =>
    intro i hi ha
    have hil : i < l.length := by omega
    have hsz := jB_size l i ha
    have e1 : rd l (i : Int) = l[i] := by rw [rd_nat]; simp [hil]
    have htk : l.take (i + 1) = l.take i ++ [l[i]] := by rw [List.take_add_one, List.getElem?_eq_getElem hil]; rfl
    have hnot : okN l[i] = false → l.all okN = false := fun h => by
      rw [Bool.eq_false_iff]
      intro h2
      have := List.all_eq_true.1 h2 l[i] (List.getElem_mem hil)
      rw [h] at this
      cases this
    by_cases c1 : l[i] < 0
    · rw [hnot (by unfold okN; simp; omega)]
      refine Ev.step (f := fun k => tithebarnref13_Print.j2 k (jB l i) (i : Int) true l t) (fun k => ?_) (Ev.step (f := fun _ => some ((⟨#[]⟩ : ByteArray), (130 : Int))) (fun k => ?_) (Ev.now _))
      · simp only [tithebarnref13_Print.l0]
        rw [if_pos (by omega), if_pos (by omega), e1, if_pos c1]
      · simp only [tithebarnref13_Print.j2]
        rfl
    · refine Ev.step (f := fun k => tithebarnref13_Print.j2 k (jB l i) (i : Int) (decide (l[i] > 999999999)) l t) (fun k => ?_) ?_
      · simp only [tithebarnref13_Print.l0]
        rw [if_pos (by omega), if_pos (by omega), e1, if_neg c1]
      · by_cases c2 : l[i] > 999999999
        · rw [hnot (by unfold okN; simp; omega), decide_eq_true c2]
          refine Ev.step (f := fun _ => some ((⟨#[]⟩ : ByteArray), (130 : Int))) (fun k => ?_) (Ev.now _)
          simp only [tithebarnref13_Print.j2]
          rfl
        · rw [decide_eq_false c2]
          have hdg := digits_ev l[i] (by omega) (by omega)
          have hdl := dec_len l[i].toNat (by omega)
          have hds : (⟨(decDigits l[i].toNat).toArray⟩ : ByteArray).size ≤ 9 := by simpa [ByteArray.size] using hdl
          have hok : (l.take (i + 1)).all okN = true := by rw [htk, List.all_append, ha]; simp [okN]; omega
          have ih2 := ih (i + 1) (by omega) hok
          by_cases h0 : i = 0
          · subst h0
            have hjb : jB l 0 ++ (⟨(decDigits l[0].toNat).toArray⟩ : ByteArray) = jB l (0 + 1) := by
              unfold jB
              rw [htk]
              apply ByteArray.ext
              apply Array.ext'
              simp [ByteArray.data_append, joinOn]
            refine Ev.step (f := fun k => (tithebarnref13_digits.f k l[0]).bind fun t114 => (if (jB l 0).size + t114.size ≤ 9223372036854775807 then (tithebarnref13_Print.l0 k (jB l 0 ++ t114) ((0 + 1 : Nat) : Int) l t) else (none))) (fun k => ?_) (Ev.bind hdg (Ev.ite_pos (by omega) (by rw [hjb]; exact ih2)))
            simp only [tithebarnref13_Print.j2]
            rw [if_neg (by decide), if_neg (by omega), if_pos (by omega), if_pos (by omega), e1, wrap_id (by omega) (by omega)]
            rfl
          · have hne : (l.take i).map (fun n => decDigits n.toNat) ≠ [] := by
              intro h
              have := congrArg List.length h
              rw [List.length_map, List.length_take] at this
              simp only [List.length_nil] at this
              omega
            have hjb : (jB l i ++ (⟨#[46]⟩ : ByteArray)) ++ (⟨(decDigits l[i].toNat).toArray⟩ : ByteArray) = jB l (i + 1) := by
              unfold jB
              rw [htk, List.map_append, List.map_cons, List.map_nil, joinOn_snoc 46 _ _ hne]
              apply ByteArray.ext
              apply Array.ext'
              simp [ByteArray.data_append]
            have hs2 : (jB l i ++ (⟨#[46]⟩ : ByteArray)).size = (jB l i).size + 1 := by rw [ByteArray.size_append]; rfl
            refine Ev.step (f := fun k => (tithebarnref13_digits.f k l[i]).bind fun t112 => (if (jB l i ++ (⟨#[46]⟩ : ByteArray)).size + t112.size ≤ 9223372036854775807 then (tithebarnref13_Print.l0 k ((jB l i ++ (⟨#[46]⟩ : ByteArray)) ++ t112) ((i + 1 : Nat) : Int) l t) else (none))) (fun k => ?_) (Ev.bind hdg (Ev.ite_pos (by omega) (by rw [hjb]; exact ih2)))
            simp only [tithebarnref13_Print.j2]
            rw [if_neg (by decide), if_pos (by omega), if_pos (by omega), if_pos (by omega), if_pos (by omega), e1, wrap_id (by omega) (by omega)]
            rfl
theorem refprint_ev (l : List Int) (t : ByteArray) (htl : t.size ≤ 1000) : Ev (fun k => tithebarnref13_Print.f k l t) (if okV l t.data.toList then (⟨(printV l t.data.toList).toArray⟩, 0) else (⟨#[]⟩, 130)) := by
  have hok : okV l t.data.toList = (decide (1 ≤ l.length) && decide (l.length ≤ 8) && l.all okN && tagB t.data.toList) := rfl
  have hbad : Ev (fun k => tithebarnref13_Print.j0 k true l t) ((⟨#[]⟩ : ByteArray), (130 : Int)) := by
    refine Ev.step (f := fun _ => some ((⟨#[]⟩ : ByteArray), (130 : Int))) (fun k => ?_) (Ev.now _)
    simp only [tithebarnref13_Print.j0]
    rfl
  unfold tithebarnref13_Print.f
  rw [hok]
  by_cases c1 : (l.length : Int) < 1
  · rw [decide_eq_false (show ¬ 1 ≤ l.length by omega)]
    exact Ev.ite_pos c1 hbad
  · refine Ev.ite_neg c1 ?_
    by_cases c2 : (l.length : Int) > 8
    · rw [decide_eq_false (show ¬ l.length ≤ 8 by omega), Bool.and_false]
      exact Ev.ite_pos c2 hbad
    · refine Ev.ite_neg c2 (Ev.bind (tag_ev t (by omega)) ?_)
      rw [decide_eq_true (show 1 ≤ l.length by omega), decide_eq_true (show l.length ≤ 8 by omega)]
      cases htag : tagB t.data.toList with
      | false =>
        rw [Bool.and_false]
        exact hbad
      | true =>
        rw [Bool.and_true, Bool.true_and, Bool.true_and]
        have := refprint_l0 l t (by omega) htl l.length 0 (by omega) rfl
        refine Ev.step (f := fun k => tithebarnref13_Print.l0 k (jB l 0) ((0 : Nat) : Int) l t) (fun k => ?_) this
        simp only [tithebarnref13_Print.j0]
        rfl
theorem vprint_j0 (f : Bool) (l : List Int) (t : ByteArray) (hl : l.length ≤ 100) (hf : f = decide ((t.size : Int) > 100)) : Ev (fun k => tithebarnlaw13_VersionPrint.j0 k f l t) true := by
  by_cases ht : t.size ≤ 100
  · have : f = false := by rw [hf]; simp; omega
    subst this
    have hr := refprint_ev l t (by omega)
    generalize hq : (if okV l t.data.toList then ((⟨(printV l t.data.toList).toArray⟩ : ByteArray), (0 : Int)) else (⟨#[]⟩, 130)) = q at hr
    refine Ev.step (f := fun k => (tithebarnref13_Print.f k l t).bind fun bt125 => (if q.1.toList = bt125.1.toList then (if q.2 = bt125.2 then (some true) else (some false)) else (some false))) (fun k => ?_) (Ev.bind hr (Ev.ite_pos rfl (Ev.ite_pos rfl (Ev.now _))))
    simp only [tithebarnlaw13_VersionPrint.j0]
    rw [if_neg (by decide), print_prog l t (by omega) (by omega), hq, Option.bind_some]
    rfl
  · have : f = true := by rw [hf]; simp; omega
    subst this
    refine Ev.step (f := fun _ => some true) (fun k => ?_) (Ev.now _)
    simp only [tithebarnlaw13_VersionPrint.j0]
    rfl
theorem vprint_true (l : List Int) (t : ByteArray) : Ev (fun k => tithebarnlaw13_VersionPrint.j0 k true l t) true := by
  refine Ev.step (f := fun _ => some true) (fun k => ?_) (Ev.now _)
  simp only [tithebarnlaw13_VersionPrint.j0]
  rfl
theorem pure_VersionPrint : ∀ (l0_0 : (List Int)) (a0_1 : ByteArray), (l0_0.length ≤ maxLen ∧ ∀ y0 ∈ l0_0, (Lit.int .i64 y0).wf = true) → a0_1.size ≤ maxLen → ∃ k, PVer.tithebarnlaw13_VersionPrint.f k l0_0 a0_1 = some true := by
  intro l t _ _
  refine Ev.rounds (g := fun k => tithebarnlaw13_VersionPrint.f k l t) ?_
  unfold tithebarnlaw13_VersionPrint.f
  by_cases h : (l.length : Int) > 100
  · exact Ev.ite_pos h (vprint_true l t)
  · exact Ev.ite_neg h (vprint_j0 _ l t (by omega) rfl)
end Go.Proofs.YtnbmdecehlljcaaGreatDoor
