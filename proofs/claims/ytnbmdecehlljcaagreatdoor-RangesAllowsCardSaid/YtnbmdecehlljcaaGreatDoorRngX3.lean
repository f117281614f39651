/- Plain law: RangesAllows. -/
import Derived.Test.YtnbmdecehlljcaaGreatDoorRngV3
import Derived.Test.YtnbmdecehlljcaaGreatDoorRngX2
import Derived.Test.YtnbmdecehlljcaaGreatDoorPRqx24
namespace Go.Proofs.YtnbmdecehlljcaaGreatDoor
open Go.RowKit Go.Lib Go.Proofs.YtnbmdecehlljcaaGreatDoorW.PrintWords Go.Proofs.YtnbmdecehlljcaaGreatDoorW.PrintLast Go.Proofs.YtnbmdecehlljcaaGreatDoorW.PrintMore PRq
set_option linter.unusedVariables false
set_option linter.unusedSimpArgs false
theorem rnear_l0 (m : List Int) (u : ByteArray) (l : List Int) (t : ByteArray) (n : Nat) (hm : n ≤ m.length) (hl : n ≤ l.length) (hml : m.length ≤ 1000000) (hll : l.length ≤ 1000000) : ∀ (d i : Nat), i + d = n →
    Ev (fun k => tithebarnref14_near.l0 k (n : Int) (i : Int) m u l t) (decide ((l.drop i).take d = (m.drop i).take d) && decide (cmpV l t.data.toList m u.data.toList ≥ 0)) := by
  intro d
  induction d with
  | zero =>
    intro i hi
    rw [List.take_zero, List.take_zero, decide_eq_true rfl, Bool.true_and]
    refine Ev.step (f := fun k => (tithebarnref13_Compare.f k l t m u).bind fun t247 => (some (decide (t247 ≥ 0)))) (fun k => ?_) (Ev.bind (refcmp_ev l m t u hll) (Ev.const rfl))
    simp only [tithebarnref14_near.l0]
    rw [if_neg (by omega)]
  | succ d ih =>
    intro i hi
    have ih2 := ih (i + 1) (by omega)
    have h1 : i < l.length := by omega
    have h2 : i < m.length := by omega
    have e1 : rd l (i : Int) = l[i] := by rw [rd_nat, List.getD_eq_getElem?_getD, List.getElem?_eq_getElem h1]; rfl
    have e2 : rd m (i : Int) = m[i] := by rw [rd_nat, List.getD_eq_getElem?_getD, List.getElem?_eq_getElem h2]; rfl
    rw [List.drop_eq_getElem_cons h1, List.drop_eq_getElem_cons h2, List.take_succ_cons, List.take_succ_cons]
    by_cases e : l[i] = m[i]
    · have e3 : decide (l[i] :: (l.drop (i + 1)).take d = m[i] :: (m.drop (i + 1)).take d) = decide ((l.drop (i + 1)).take d = (m.drop (i + 1)).take d) := by
        simp only [List.cons.injEq, e, true_and]
      rw [e3]
      refine Ev.step (fun k => ?_) ih2
      simp only [tithebarnref14_near.l0]
      rw [if_pos (by omega), if_pos (by omega), if_pos (by omega), if_pos (by omega), e1, e2, if_pos e, wrap_id (by omega) (by omega)]
      rfl
    · have e3 : decide (l[i] :: (l.drop (i + 1)).take d = m[i] :: (m.drop (i + 1)).take d) = false := decide_eq_false (fun h => e (List.cons.inj h).1)
      rw [e3, Bool.false_and]
      refine Ev.step (f := fun _ => some false) (fun k => ?_) (Ev.now _)
      simp only [tithebarnref14_near.l0]
      rw [if_pos (by omega), if_pos (by omega), if_pos (by omega), if_pos (by omega), e1, e2, if_neg e]
theorem rnear_ev (m : List Int) (u : ByteArray) (l : List Int) (t : ByteArray) (h1 : 1 ≤ m.length) (hml : m.length ≤ 1000000) (hll : l.length ≤ 1000000) : Ev (fun k => tithebarnref14_near.f k m u l t) (nearV l t.data.toList m u.data.toList) := by
  have hn : mx 1 (wrap64 ((m.length : Int) - 1)) = (nearN m : Int) := by
    rw [wrap_id (by omega) (by omega)]
    unfold mx nearN
    split <;> split <;> omega
  have hnm : nearN m ≤ m.length := by
    unfold nearN
    split <;> omega
  unfold nearV
  by_cases c : nearN m ≤ l.length
  · have h := rnear_l0 m u l t (nearN m) hnm c hml hll (nearN m) 0 (by omega)
    rw [List.drop_zero, List.drop_zero, Bool.and_comm] at h
    rw [decide_eq_true c, Bool.true_and]
    refine Ev.congr (fun k => ?_) h
    unfold tithebarnref14_near.f
    rw [hn, if_neg (by omega)]
    rfl
  · rw [decide_eq_false c, Bool.false_and, Bool.and_false]
    refine Ev.congr (f := fun _ => some false) (fun k => ?_) (Ev.now _)
    unfold tithebarnref14_near.f
    rw [hn, if_pos (by omega)]
theorem rallows_ev (b : PRq.S59) (l : List Int) (t : ByteArray) (hb : mayB b = true) (h0 : 0 ≤ b.f0) (hs : b.f1.size ≤ 100000) (hl : l.length ≤ 1000000) : Ev (fun k => tithebarnref14_allows.f k b.f0 b.f1 l t) (allowB b l t.data.toList) := by
  have hn := nums_len b.f1.data.toList
  refine Ev.bind (g := fun k => tithebarnref13_Parse.f k b.f1) (parse_ev b.f1 hs) (Ev.bind (refcmp_ev l (tripleV b.f1).1 t (tripleV b.f1).2.1 hl) ?_)
  have ht : cmpV l t.data.toList (tripleV b.f1).1 (tripleV b.f1).2.1.data.toList = cmpV l t.data.toList (numsOf (parseC b.f1.data.toList)) (tagOf (parseC b.f1.data.toList)) := by
    rw [← parseC_eq]
    rfl
  rw [ht]
  unfold allowB
  generalize hc : cmpV l t.data.toList (numsOf (parseC b.f1.data.toList)) (tagOf (parseC b.f1.data.toList)) = c
  have hop : ∀ n : Int, n ≠ 0 → n ≠ 7 → b.f0 = n → (if b.f0 = 0 then true else if b.f0 = 7 then nearV l t.data.toList (numsOf (parseC b.f1.data.toList)) (tagOf (parseC b.f1.data.toList)) else opB b.f0 c) = opB n c := fun n h1 h2 e => by rw [e, if_neg h1, if_neg h2]
  by_cases c1 : b.f0 = 1
  · refine Ev.ite_pos c1 (Ev.const ?_)
    rw [hop 1 (by omega) (by omega) c1]
    rfl
  · refine Ev.ite_neg c1 ?_
    by_cases c2 : b.f0 = 2
    · refine Ev.ite_pos c2 (Ev.const ?_)
      rw [hop 2 (by omega) (by omega) c2]
      rfl
    · refine Ev.ite_neg c2 ?_
      by_cases c3 : b.f0 = 3
      · refine Ev.ite_pos c3 (Ev.const ?_)
        rw [hop 3 (by omega) (by omega) c3]
        rfl
      · refine Ev.ite_neg c3 ?_
        by_cases c4 : b.f0 = 4
        · refine Ev.ite_pos c4 (Ev.const ?_)
          rw [hop 4 (by omega) (by omega) c4]
          rfl
        · refine Ev.ite_neg c4 ?_
          by_cases c5 : b.f0 = 5
          · refine Ev.ite_pos c5 (Ev.const ?_)
            rw [hop 5 (by omega) (by omega) c5]
            rfl
          · refine Ev.ite_neg c5 ?_
            by_cases c6 : b.f0 = 6
            · refine Ev.ite_pos c6 (Ev.const ?_)
              rw [hop 6 (by omega) (by omega) c6]
              rfl
            · refine Ev.ite_neg c6 ?_
              by_cases c7 : b.f0 = 7
              · refine Ev.ite_pos c7 ?_
                rw [if_neg (by omega), if_pos c7]
                unfold mayB at hb
                rw [if_neg (by omega), Bool.and_eq_true] at hb
                have hp := nums_pos _ hb.2
                refine Ev.bind (rnear_ev (tripleV b.f1).1 (tripleV b.f1).2.1 l t hp (by show (numsOf _).length ≤ _; omega) hl) (Ev.const ?_)
                rw [← parseC_eq]
                rfl
              · refine Ev.ite_neg c7 (Ev.const ?_)
                have e0 : b.f0 = 0 := by
                  unfold mayB at hb
                  by_cases c0 : b.f0 = 0
                  · exact c0
                  · rw [if_neg c0, Bool.and_eq_true, decide_eq_true_eq] at hb
                    omega
                rw [if_pos e0]
theorem rAllows_l1 (l : List (List PRq.S59)) (hll : l.length ≤ 1000000) (v : List Int) (t : ByteArray) (hv : v.length ≤ 1000000) (i : Nat) (hi : i < l.length) (hr : l[i].length ≤ 1000000) (hb : ∀ b ∈ l[i], mayB b = true ∧ 0 ≤ b.f0 ∧ b.f1.size ≤ 100000) (r : Bool)
    (h : Ev (fun k => tithebarnref14_Allows.l0 k l ((i + 1 : Nat) : Int) v t) r) : ∀ (d j : Nat) (a : Bool), j + d = l[i].length →
    Ev (fun k => tithebarnref14_Allows.l1 k l (i : Int) a (j : Int) v t) (if (a && (l[i].drop j).all fun b => allowB b v t.data.toList) = true then true else r) := by
  have hrd := rdL_nat l i hi
  intro d
  induction d with
  | zero =>
    intro j a hj
    have e : j = l[i].length := by omega
    subst e
    rw [List.drop_length, List.all_nil, Bool.and_true]
    cases a with
    | true =>
      rw [if_pos rfl]
      refine Ev.step (f := fun _ => some true) (fun k => ?_) (Ev.now _)
      simp only [tithebarnref14_Allows.l1]
      rw [if_pos (by omega), if_pos (by omega), hrd, if_neg (by omega), if_pos trivial]
    | false =>
      rw [if_neg (by decide)]
      refine Ev.step (fun k => ?_) h
      simp only [tithebarnref14_Allows.l1]
      rw [if_pos (by omega), if_pos (by omega), hrd, if_neg (by omega), if_neg (by decide), wrap_id (by omega) (by omega)]
      rfl
  | succ d ih =>
    intro j a hj
    have hjl : j < l[i].length := by omega
    have hrb := rdT_nat l[i] j hjl
    obtain ⟨b1, b2, b3⟩ := hb _ (List.getElem_mem hjl)
    rw [List.drop_eq_getElem_cons hjl, List.all_cons]
    cases a with
    | true =>
      have ih2 := ih (j + 1) (allowB l[i][j] v t.data.toList) (by omega)
      rw [Bool.true_and]
      refine Ev.step (f := fun k => (tithebarnref14_allows.f k l[i][j].f0 l[i][j].f1 v t).bind fun t268 => (tithebarnref14_Allows.l1 k l (i : Int) t268 ((j + 1 : Nat) : Int) v t)) (fun k => ?_) (Ev.bind (rallows_ev l[i][j] v t b1 b2 b3 hv) ih2)
      simp only [tithebarnref14_Allows.l1]
      rw [if_pos (by omega), if_pos (by omega), hrd, if_pos (by omega), if_pos trivial, if_pos (by omega), hrb, wrap_id (by omega) (by omega)]
      rfl
    | false =>
      have ih2 := ih (j + 1) false (by omega)
      rw [Bool.false_and] at ih2 ⊢
      refine Ev.step (fun k => ?_) ih2
      simp only [tithebarnref14_Allows.l1]
      rw [if_pos (by omega), if_pos (by omega), hrd, if_pos (by omega), if_neg (by decide), wrap_id (by omega) (by omega)]
      rfl
theorem rAllows_l0 (l : List (List PRq.S59)) (hll : l.length ≤ 1000000) (v : List Int) (t : ByteArray) (hv : v.length ≤ 1000000) (hb : ∀ row ∈ l, row.length ≤ 1000000 ∧ ∀ b ∈ row, mayB b = true ∧ 0 ≤ b.f0 ∧ b.f1.size ≤ 100000) : ∀ (d i : Nat), i + d = l.length →
    Ev (fun k => tithebarnref14_Allows.l0 k l (i : Int) v t) (((l.drop i).any fun row => row.all fun b => allowB b v t.data.toList) || decide (l.length = 0)) := by
  intro d
  induction d with
  | zero =>
    intro i hi
    have e : i = l.length := by omega
    subst e
    rw [List.drop_length, List.any_nil, Bool.false_or]
    refine Ev.step (f := fun _ => some (decide (l.length = 0))) (fun k => ?_) (Ev.now _)
    simp only [tithebarnref14_Allows.l0]
    rw [if_neg (by omega)]
    congr 1
    by_cases h0 : l.length = 0
    · rw [decide_eq_true h0, beq_iff_eq]
      omega
    · rw [decide_eq_false h0, beq_eq_false_iff_ne]
      omega
  | succ d ih =>
    intro i hi
    have hil : i < l.length := by omega
    obtain ⟨h1, h2⟩ := hb _ (List.getElem_mem hil)
    have h3 := rAllows_l1 l hll v t hv i hil h1 h2 _ (ih (i + 1) (by omega)) l[i].length 0 true (by omega)
    rw [List.drop_zero, Bool.true_and] at h3
    rw [List.drop_eq_getElem_cons hil, List.any_cons]
    have e : ∀ (x y z : Bool), (x || y || z) = if x = true then true else (y || z) := by decide
    rw [e]
    refine Ev.step (fun k => ?_) h3
    simp only [tithebarnref14_Allows.l0]
    rw [if_pos (by omega)]
    rfl
theorem rAllows_ev (l : List (List PRq.S59)) (s : ByteArray) (h : Lim l) (hw : WfR l) (hs : s.size ≤ 100000) : Ev (fun k => tithebarnref14_Allows.f k l s) (allowsR l s.data.toList) := by
  have hm := May_ev l (by have := h.1; omega) (fun row hr => by have := (h.2 row hr).1; omega) h.small5
  refine Ev.bind (g := fun k => tithebarnref13_Parse.f k s) (parse_ev s hs) ?_
  unfold allowsR
  cases hv : parseC s.data.toList with
  | none =>
    rw [triple_none hv]
    refine Ev.ite_neg (by decide) (Ev.step (f := fun _ => some false) (fun k => ?_) (Ev.now _))
    simp only [tithebarnref14_Allows.j0]
    rfl
  | some v =>
    rw [triple_some hv]
    refine Ev.ite_pos rfl (Ev.bind hm ?_)
    simp only []
    cases hr : rightV l with
    | false =>
      refine Ev.step (f := fun _ => some false) (fun k => ?_) (Ev.now _)
      simp only [tithebarnref14_Allows.j0]
      rfl
    | true =>
      have hlen := some_len hv
      have hb : ∀ row ∈ l, row.length ≤ 1000000 ∧ ∀ b ∈ row, mayB b = true ∧ 0 ≤ b.f0 ∧ b.f1.size ≤ 100000 := fun row h1 => by
        have h3 := List.all_eq_true.1 (Bool.and_eq_true_iff.1 hr).2 row h1
        unfold rowOk at h3
        have h4 := (h.2 row h1).1
        exact ⟨by omega, fun b h2 => ⟨List.all_eq_true.1 (Bool.and_eq_true_iff.1 h3).2 b h2, hw row h1 b h2, h.small5 row h1 b h2⟩⟩
      have h0 := rAllows_l0 l (by have := h.1; omega) v.1 ⟨v.2.toArray⟩ (by omega) hb l.length 0 (by omega)
      rw [List.drop_zero, Bool.or_comm] at h0
      rw [Bool.true_and]
      refine Ev.step (fun k => ?_) h0
      simp only [tithebarnref14_Allows.j0]
      rfl
theorem rTexts_ev (s t : ByteArray) (hs : s.size ≤ 100000) (ht : t.size ≤ 100000) : Ev (fun k => tithebarnref13_Texts.f k s t) (textC s t) := by
  refine Ev.bind (g := fun k => tithebarnref13_Parse.f k s) (parse_ev s hs) (Ev.bind (parse_ev t ht) ?_)
  unfold textC
  cases h1 : parseC s.data.toList with
  | none =>
    rw [triple_none h1]
    exact Ev.ite_neg (by decide) (Ev.now _)
  | some a =>
    rw [triple_some h1]
    refine Ev.ite_pos rfl ?_
    cases h2 : parseC t.data.toList with
    | none =>
      rw [triple_none h2]
      exact Ev.ite_neg (by decide) (Ev.now _)
    | some b =>
      rw [triple_some h2]
      have := some_len h1
      exact Ev.ite_pos rfl (Ev.bind (refcmp_ev a.1 b.1 ⟨a.2.toArray⟩ ⟨b.2.toArray⟩ (by omega)) (Ev.const rfl))
theorem rbest_l0 (r : List (List PRq.S59)) (l : List ByteArray) (hr : Lim r) (hw : WfR r) (hl : l.length ≤ 1000000) (hs : ∀ s ∈ l, s.size ≤ 100000) : ∀ (d i : Nat) (best : Int), i + d = l.length → -1 ≤ best → best < (l.length : Int) →
    Ev (fun k => tithebarnref14_Best.l0 k r l best (i : Int)) (bestR r l d i best) := by
  intro d
  induction d with
  | zero =>
    intro i best hi _ _
    refine Ev.step (f := fun _ => some best) (fun k => ?_) (Ev.now _)
    simp only [tithebarnref14_Best.l0]
    rw [if_neg (by omega)]
  | succ d ih =>
    intro i best hi h0 h1
    have hsi := hs _ (getD_mem l ByteArray.empty i (by omega))
    have hA := rAllows_ev r (l.getD i ByteArray.empty) hr hw hsi
    unfold bestR
    refine Ev.step (f := fun k => (tithebarnref14_Allows.f k r (l.getD i ByteArray.empty)).bind fun t301 => (if t301 = true then (if best ≥ 0 then (if best < (l.length : Int) then ((tithebarnref13_Texts.f k (l.getD i ByteArray.empty) (rdOf ByteArray.empty l best)).bind fun bt304 => (if bt304.1 ≤ 0 then (tithebarnref14_Best.l0 k r l best ((i + 1 : Nat) : Int)) else (tithebarnref14_Best.l0 k r l (i : Int) ((i + 1 : Nat) : Int)))) else (none)) else (tithebarnref14_Best.l0 k r l (i : Int) ((i + 1 : Nat) : Int))) else (tithebarnref14_Best.l0 k r l best ((i + 1 : Nat) : Int)))) (fun k => ?_) (Ev.bind hA ?_)
    · simp only [tithebarnref14_Best.l0]
      rw [if_pos (by omega), if_pos (by omega), rdS_nat, wrap_id (by omega) (by omega)]
      congr 1
      funext x
      by_cases hx : x = true
      · rw [if_pos hx, if_pos hx]
        by_cases hb : best ≥ 0
        · rw [if_pos hb, if_pos hb, if_pos hb]
          rfl
        · rw [if_neg hb, if_neg hb]
          rfl
      · rw [if_neg hx, if_neg hx]
        rfl
    · by_cases ha : allowsR r (l.getD i ByteArray.empty).data.toList = true
      · rw [if_pos ha]
        refine Ev.ite_pos ha ?_
        by_cases hb : best ≥ 0
        · rw [if_pos hb]
          refine Ev.ite_pos hb (Ev.ite_pos (by omega) ?_)
          obtain ⟨b, rfl⟩ := Int.eq_ofNat_of_zero_le hb
          rw [Int.toNat_natCast, rdS_nat]
          refine Ev.bind (rTexts_ev _ _ hsi (hs _ (getD_mem l ByteArray.empty b (by omega)))) ?_
          by_cases hc : (textC (l.getD i ByteArray.empty) (l.getD b ByteArray.empty)).1 ≤ 0
          · rw [if_pos hc]
            exact Ev.ite_pos hc (ih (i + 1) b (by omega) (by omega) (by omega))
          · rw [if_neg hc]
            exact Ev.ite_neg hc (ih (i + 1) i (by omega) (by omega) (by omega))
        · rw [if_neg hb]
          exact Ev.ite_neg hb (ih (i + 1) i (by omega) (by omega) (by omega))
      · rw [if_neg ha]
        exact Ev.ite_neg ha (ih (i + 1) best (by omega) h0 h1)
theorem rBest_ev (r : List (List PRq.S59)) (l : List ByteArray) (hr : Lim r) (hw : WfR r) (hl : l.length ≤ 1000000) (hs : ∀ s ∈ l, s.size ≤ 100000) : Ev (fun k => tithebarnref14_Best.f k r l) (bestR r l l.length 0 (-1)) :=
  rbest_l0 r l hr hw hl hs l.length 0 (-1) (by omega) (by omega) (by omega)
theorem allows_law (r : List (List PRq.S59)) (l : List ByteArray) (hr : Lim r) (hw : WfR r) (hl : l.length ≤ 20) : ∀ (d i : Nat), i + d = l.length → (∀ q, q < i → (l.getD q ByteArray.empty).size ≤ 60) → Ev (fun k => PRq.tithebarnlaw14_RangesAllows.l0 k r l (i : Int)) true := by
  intro d
  induction d with
  | zero =>
    intro i hi hq
    have hs : ∀ s ∈ l, s.size ≤ 60 := fun s hs => by
      obtain ⟨q, hql, e⟩ := List.getElem_of_mem hs
      have := hq q (by omega)
      rw [List.getD_eq_getElem?_getD, List.getElem?_eq_getElem hql] at this
      rw [← e]
      exact this
    refine Ev.step (f := fun k => (PRq.ranges_Best.f k r l).bind fun t308 => ((tithebarnref14_Best.f k r l).bind fun t309 => (if t308 = t309 then ((tithebarnlaw14_works.f).bind fun t310 => (some t310)) else (some false)))) (fun k => ?_)
      (Ev.bind (Best_ev r l hr.small hw (by omega) (fun s h => by have := hs s h; omega)) (Ev.bind (rBest_ev r l hr hw (by omega) (fun s h => by have := hs s h; omega)) (Ev.ite_pos rfl (Ev.const rfl))))
    simp only [PRq.tithebarnlaw14_RangesAllows.l0]
    rw [if_neg (by omega)]
  | succ d ih =>
    intro i hi hq
    by_cases h60 : ((l.getD i ByteArray.empty).size : Int) > 60
    · refine Ev.step (f := fun _ => some true) (fun k => ?_) (Ev.now _)
      simp only [PRq.tithebarnlaw14_RangesAllows.l0]
      rw [if_pos (by omega), if_pos (by omega), rdS_nat, if_pos h60]
      rfl
    · have hA := Allows_f r (l.getD i ByteArray.empty) hr.small hw (by omega)
      have hB := rAllows_ev r (l.getD i ByteArray.empty) hr hw (by omega)
      have ih2 := ih (i + 1) (by omega) (fun q hq2 => by
        by_cases e : q = i
        · subst e
          omega
        · exact hq q (by omega))
      refine Ev.step (f := fun k => (tithebarnref14_Allows.f k r (l.getD i ByteArray.empty)).bind fun t316 => (if (allowsR r (l.getD i ByteArray.empty).data.toList != t316) = true then (some false) else (PRq.tithebarnlaw14_RangesAllows.l0 k r l ((i + 1 : Nat) : Int)))) (fun k => ?_) (Ev.bind hB (Ev.ite_neg (by simp) ih2))
      simp only [PRq.tithebarnlaw14_RangesAllows.l0]
      rw [if_pos (by omega), if_pos (by omega), rdS_nat, if_neg h60, hA, Option.bind_some, wrap_id (by omega) (by omega)]
      rfl
theorem true_RangesAllows (r : List (List PRq.S59)) (l : List ByteArray) (hw : WfR r) : Ev (fun k => PRq.tithebarnlaw14_RangesAllows.f k r l) true := by
  obtain ⟨b, h1, h2⟩ := Small_ev r
  have ht : Ev (fun k => PRq.tithebarnlaw14_RangesAllows.j0 k r l true) true := by
    refine Ev.step (f := fun _ => some true) (fun k => ?_) (Ev.now _)
    simp only [PRq.tithebarnlaw14_RangesAllows.j0]
    rfl
  refine Ev.bind (g := fun k => tithebarnkit_SmallRange.f k r 1000) h1 ?_
  cases b with
  | false => exact Ev.ite_neg (by decide) ht
  | true =>
    refine Ev.ite_pos rfl ?_
    by_cases h20 : (l.length : Int) > 20
    · rw [decide_eq_true h20]
      exact ht
    · rw [decide_eq_false h20]
      refine Ev.step (fun k => ?_) (allows_law r l (h2 rfl) hw (by omega) l.length 0 (by omega) (fun q hq => absurd hq (Nat.not_lt_zero _)))
      simp only [PRq.tithebarnlaw14_RangesAllows.j0]
      rfl
theorem pure_RangesAllows : ∀ (l0 : (List (List PRq.S59))) (l1 : (List ByteArray)), (l0.length ≤ maxLen ∧ ∀ y0 ∈ l0, (y0.length ≤ maxLen ∧ ∀ y1 ∈ y0, ((Lit.int .u8 y1.f0).wf = true ∧ y1.f1.size ≤ maxLen))) → (l1.length ≤ maxLen ∧ ∀ y0 ∈ l1, y0.size ≤ maxLen) → ∃ k, PRq.tithebarnlaw14_RangesAllows.f k l0 l1 = some true :=
  fun l0 l1 h _ => Ev.rounds (g := fun k => PRq.tithebarnlaw14_RangesAllows.f k l0 l1) (true_RangesAllows l0 l1 (wfR_of fun y0 h0 y1 h1 => ((h.2 y0 h0).2 y1 h1).1))
end Go.Proofs.YtnbmdecehlljcaaGreatDoor
