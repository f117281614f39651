/- The plain side of cnf: Holds, Has, left, SameInts of the reference; what is open of a clause, told twice. -/
import Derived.Test.YtjghhdgebmoohaaPureA
import Derived.Test.YtjghhdgebmoohaaPCnfx5
import Derived.Test.YtjghhdgebmoohaaPCnfx6
namespace Go.Proofs.Ytjghhdgebmoohaa
open Go.RowKit Go.Proofs.YtjghhdgebmoohaaW.PrintWords Go.Proofs.YtjghhdgebmoohaaW.PrintLast Go.Proofs.YtjghhdgebmoohaaW.PrintMore PCnf
set_option linter.unusedVariables false
set_option linter.unusedSimpArgs false
theorem size_f (x : Int) (h1 : -100000 ≤ x) (h2 : x ≤ 100000) : tithebarnref16_size.f x = some (x.natAbs : Int) := by
  unfold tithebarnref16_size.f
  by_cases h : x < 0
  · rw [if_pos h, wrap_id (by omega) (by omega)]
    congr 1
    omega
  · rw [if_neg h]
    congr 1
    omega
theorem true_f (x : Int) (m : List Bool) (h0 : x ≠ 0) (h1 : -100000 ≤ x) (h2 : x ≤ 100000) (h3 : x.natAbs ≤ m.length) : tithebarnref16_True.f x m = some (trueB m x) := by
  unfold tithebarnref16_True.f
  rw [size_f x h1 h2, Option.bind_some, wrap_id (by omega) (by omega), if_pos (by omega), if_pos (by omega)]
  congr 1
  unfold trueB
  have : ((x.natAbs : Int) - 1).toNat = x.natAbs - 1 := by omega
  simp only [rdOf, this]
theorem refHolds_l1 (n : Int) (l : List (List Int)) (m : List Bool) (hl : l.length ≤ 1000000000) (hlen : ∀ q, q < l.length → (l.getD q []).length ≤ 1000000000) (hok : ∀ q, q < l.length → ∀ y ∈ l.getD q [], tithebarnref16_True.f y m = some (trueB m y)) (R : Bool) (i : Nat) (hi : i < l.length)
    (hnext : (l.getD i []).any (trueB m) = true → Ev (fun k => tithebarnref16_Holds.l0 k m ((i + 1 : Nat) : Int) n l) R) (hR : (l.getD i []).any (trueB m) = false → R = false) :
    ∀ (d j : Nat) (b : Bool), j + d = (l.getD i []).length → (b = true → (l.getD i []).any (trueB m) = true) → (b = false → ∀ q, q < j → trueB m ((l.getD i []).getD q 0) = false) → Ev (fun k => tithebarnref16_Holds.l1 k m i b j n l) R := by
  have hli := hlen i hi
  intro d
  induction d with
  | zero =>
    intro j b hj hb hq
    cases b with
    | true =>
      refine Ev.step (fun k => ?_) (hnext (hb rfl))
      simp only [tithebarnref16_Holds.l1]
      rw [if_pos (by omega), if_pos (by omega), rdL_nat, if_neg (by omega), wrap_id (by omega) (by omega)]
      rfl
    | false =>
      have : (l.getD i []).any (trueB m) = false := by
        rw [List.any_eq_false]
        intro y hy
        obtain ⟨q, hq', rfl⟩ := List.getElem_of_mem hy
        have := hq rfl q (by omega)
        rw [List.getD_eq_getElem?_getD (l := l.getD i []), List.getElem?_eq_getElem hq'] at this
        simpa using this
      rw [hR this]
      refine Ev.step (f := fun _ => some false) (fun k => ?_) (Ev.now _)
      simp only [tithebarnref16_Holds.l1]
      rw [if_pos (by omega), if_pos (by omega), rdL_nat, if_neg (by omega)]
      rfl
  | succ d ih =>
    intro j b hj hb hq
    cases b with
    | true =>
      refine Ev.step (fun k => ?_) (ih (j + 1) true (by omega) hb (fun h => by cases h))
      simp only [tithebarnref16_Holds.l1]
      rw [if_pos (by omega), if_pos (by omega), rdL_nat, if_pos (by omega), wrap_id (by omega) (by omega)]
      rfl
    | false =>
      have hm : (l.getD i []).getD j 0 ∈ l.getD i [] := getD_in 0 (by omega)
      refine Ev.step (fun k => ?_) (ih (j + 1) (trueB m ((l.getD i []).getD j 0)) (by omega) (fun h => List.any_eq_true.2 ⟨_, hm, h⟩) (fun h q hq' => ?_))
      · simp only [tithebarnref16_Holds.l1]
        rw [if_pos (by omega), if_pos (by omega), rdL_nat, if_pos (by omega), if_neg (by simp), if_pos (by omega), rd_nat, hok i hi _ hm, Option.bind_some, wrap_id (by omega) (by omega)]
        rfl
      · by_cases e : q = j
        · rw [e]; exact h
        · exact hq rfl q (by omega)
theorem refHolds_l0 (n : Int) (l : List (List Int)) (m : List Bool) (hl : l.length ≤ 1000000000) (hlen : ∀ q, q < l.length → (l.getD q []).length ≤ 1000000000) (hok : ∀ q, q < l.length → ∀ y ∈ l.getD q [], tithebarnref16_True.f y m = some (trueB m y)) :
    ∀ (d i : Nat), i + d = l.length → (∀ q, q < i → (l.getD q []).any (trueB m) = true) → Ev (fun k => tithebarnref16_Holds.l0 k m i n l) (l.all fun c => c.any (trueB m)) := by
  intro d
  induction d with
  | zero =>
    intro i hi hq
    have : (l.all fun c => c.any (trueB m)) = true := all_getD [] (fun q hq' => hq q (by omega))
    rw [this]
    refine Ev.step (f := fun _ => some true) (fun k => ?_) (Ev.now _)
    simp only [tithebarnref16_Holds.l0]
    rw [if_neg (by omega)]
  | succ d ih =>
    intro i hi hq
    refine Ev.step (f := fun k => tithebarnref16_Holds.l1 k m i false ((0 : Nat) : Int) n l) (fun k => ?_) (refHolds_l1 n l m hl hlen hok _ i (by omega) (fun hb => ih (i + 1) (by omega) (fun q hq' => ?_)) (fun hb => ?_) _ 0 false (Nat.zero_add _) (fun h => by cases h) (fun _ q hq' => absurd hq' (Nat.not_lt_zero _)))
    · simp only [tithebarnref16_Holds.l0]
      rw [if_pos (by omega)]
      rfl
    · by_cases e : q = i
      · rw [e]; exact hb
      · exact hq q (by omega)
    · rw [List.all_eq_false]
      exact ⟨l.getD i [], getD_in [] (by omega), by rw [hb]; simp⟩
theorem lits_ok {n : Int} {l : List (List Int)} (hz : checkZ n l = 0) : ∀ c ∈ l, ∀ y ∈ c, y ≠ 0 ∧ -100000 ≤ y ∧ y ≤ 100000 ∧ (y.natAbs : Int) ≤ n := by
  obtain ⟨h0, h1, _, hcl⟩ := checkZ_zero hz
  intro c hc y hy
  have h := hcl c hc
  unfold allB at h
  rw [List.all_eq_true] at h
  exact litB_bounds (h y hy) h0 h1
theorem total_get (l : List (List Int)) (q : Nat) (h : q < l.length) : (l.getD q []).length ≤ total l := by
  have := total_snoc l q h
  have := total_take_le l (q + 1)
  omega
theorem refHolds_ev (n : Int) (l : List (List Int)) (m : List Bool) (hl : l.length ≤ 1000000000) (ht : total l ≤ 1000000000) : Ev (fun k => tithebarnref16_Holds.f k n l m) (holdsB n l m) := by
  refine Ev.bind (refCheck_ev n l hl ht) ?_
  by_cases hz : checkZ n l = 0
  · refine Ev.ite_pos hz ?_
    by_cases hm : n ≤ m.length
    · rw [decide_eq_false (by omega : ¬ (m.length : Int) < n)]
      have e : holdsB n l m = l.all fun c => c.any (trueB m) := by simp [holdsB, hz, hm]
      rw [e]
      refine Ev.step (f := fun k => tithebarnref16_Holds.l0 k m ((0 : Nat) : Int) n l) (fun k => by simp only [tithebarnref16_Holds.j0]; simp) (refHolds_l0 n l m hl (fun q hq => by have := total_get l q hq; omega) (fun q hq y hy => ?_) l.length 0 (by omega) (fun q hq => absurd hq (Nat.not_lt_zero _)))
      obtain ⟨a, b, c, d⟩ := lits_ok hz _ (getD_in [] hq) y hy
      exact true_f y m a b c (by omega)
    · rw [decide_eq_true (by omega : (m.length : Int) < n)]
      have e : holdsB n l m = false := by simp [holdsB, hm]
      rw [e]
      exact Ev.step (f := fun _ => some false) (fun k => by simp only [tithebarnref16_Holds.j0]; simp) (Ev.now _)
  · refine Ev.ite_neg hz ?_
    have e : holdsB n l m = false := by simp [holdsB, hz]
    rw [e]
    exact Ev.step (f := fun _ => some false) (fun k => by simp only [tithebarnref16_Holds.j0]; simp) (Ev.now _)
theorem CnfHolds_pure : ∀ (a0_0 : Int) (l0_1 : (List (List Int))) (l1 : (List Bool)), (Lit.int .i64 a0_0).wf = true → (l0_1.length ≤ maxLen ∧ ∀ y0 ∈ l0_1, (y0.length ≤ maxLen ∧ ∀ y1 ∈ y0, (Lit.int .i64 y1).wf = true)) → (l1.length ≤ maxLen ∧ ∀ y0 ∈ l1, True) → ∃ k, PCnf.tithebarnlaw16_CnfHolds.f k a0_0 l0_1 l1 = some true := by
  intro a l m _ _ _
  refine Ev.rounds (g := fun k => PCnf.tithebarnlaw16_CnfHolds.f k a l m) ?_
  obtain ⟨b, h1, h2⟩ := few_ev a l 500 (by omega) (by omega)
  have hj : Ev (fun k => PCnf.tithebarnlaw16_CnfHolds.j0 k m true a l) true := Ev.step (f := fun _ => some true) (fun k => by simp only [PCnf.tithebarnlaw16_CnfHolds.j0]; rfl) (Ev.now _)
  refine Ev.bind h1 ?_
  cases b with
  | false => exact Ev.ite_neg (by simp) hj
  | true =>
    obtain ⟨_, h3, h4⟩ := h2 rfl
    refine Ev.ite_pos rfl ?_
    cases hm : decide ((m.length : Int) > 600) with
    | true => exact hj
    | false =>
      have e1 : cnf_Holds.f a l m = some (holdsB a l m) := by unfold cnf_Holds.f; rw [if_pos (by omega)]
      refine Ev.step (fun k => by simp only [PCnf.tithebarnlaw16_CnfHolds.j0]; rfl) (Ev.ite_neg (c := (false = true)) (f := fun _ => tithebarnlaw16_works.f.bind fun t181 => some t181) (by simp) ?_)
      exact Ev.obind e1 (Ev.obind (a := (a, l)) rfl (Ev.bind (refHolds_ev a l m (by omega) (by omega)) (Ev.ite_pos (by simp) (Ev.now _))))
/-! Has, left, SameInts. -/
theorem has_l0 (l : List Int) (x : Int) (hl : l.length ≤ 1000000000) : ∀ (d i : Nat), i + d = l.length → (∀ q, q < i → l.getD q 0 ≠ x) → Ev (fun k => tithebarnref16_Has.l0 k l x i) (l.contains x) := by
  intro d
  induction d with
  | zero =>
    intro i hi hq
    have : l.contains x = false := by
      simp only [List.contains_eq_mem, decide_eq_false_iff_not]
      intro hx
      obtain ⟨q, hq', rfl⟩ := List.getElem_of_mem hx
      exact hq q (by omega) (by simp [hq'])
    rw [this]
    refine Ev.step (f := fun _ => some false) (fun k => ?_) (Ev.now _)
    simp only [tithebarnref16_Has.l0]
    rw [if_neg (by omega)]
  | succ d ih =>
    intro i hi hq
    by_cases e : l.getD i 0 = x
    · have : l.contains x = true := by
        simp only [List.contains_eq_mem, decide_eq_true_eq]
        rw [← e]; exact getD_in 0 (by omega)
      rw [this]
      refine Ev.step (f := fun _ => some true) (fun k => ?_) (Ev.now _)
      simp only [tithebarnref16_Has.l0]
      rw [if_pos (by omega), if_pos (by omega), rd_nat, if_pos e]
    · refine Ev.step (fun k => ?_) (ih (i + 1) (by omega) (fun q hq' => by
        by_cases e' : q = i
        · rw [e']; exact e
        · exact hq q (by omega)))
      simp only [tithebarnref16_Has.l0]
      rw [if_pos (by omega), if_pos (by omega), rd_nat, if_neg e, wrap_id (by omega) (by omega)]
      rfl
theorem has_ev (l : List Int) (x : Int) (hl : l.length ≤ 1000000000) : Ev (fun k => tithebarnref16_Has.f k l x) (l.contains x) := has_l0 l x hl l.length 0 (by omega) (fun q hq => absurd hq (Nat.not_lt_zero _))
theorem same_l0 (a b : List Int) (he : a.length = b.length) (hl : a.length ≤ 1000000000) : ∀ (d i : Nat), i + d = a.length → (∀ q, q < i → a.getD q 0 = b.getD q 0) → Ev (fun k => tithebarnkit_SameInts.l0 k a b i) (decide (a = b)) := by
  intro d
  induction d with
  | zero =>
    intro i hi hq
    have : a = b := List.ext_getElem he (fun q q1 q2 => by have := hq q (by omega); simpa [q1, q2] using this)
    rw [decide_eq_true this]
    refine Ev.step (f := fun _ => some true) (fun k => ?_) (Ev.now _)
    simp only [tithebarnkit_SameInts.l0]
    rw [if_neg (by omega)]
  | succ d ih =>
    intro i hi hq
    by_cases e : a.getD i 0 = b.getD i 0
    · refine Ev.step (fun k => ?_) (ih (i + 1) (by omega) (fun q hq' => by
        by_cases e' : q = i
        · rw [e']; exact e
        · exact hq q (by omega)))
      simp only [tithebarnkit_SameInts.l0]
      rw [if_pos (by omega), if_pos (by omega), if_pos (by omega), rd_nat, rd_nat, if_pos e, wrap_id (by omega) (by omega)]
      rfl
    · rw [decide_eq_false (fun h => e (by rw [h]))]
      refine Ev.step (f := fun _ => some false) (fun k => ?_) (Ev.now _)
      simp only [tithebarnkit_SameInts.l0]
      rw [if_pos (by omega), if_pos (by omega), if_pos (by omega), rd_nat, rd_nat, if_neg e]
theorem same_ev (a b : List Int) (hl : a.length ≤ 1000000000) : Ev (fun k => tithebarnkit_SameInts.f k a b) (decide (a = b)) := by
  by_cases h : a.length = b.length
  · refine Ev.congr (f := fun k => tithebarnkit_SameInts.l0 k a b ((0 : Nat) : Int)) (fun k => by unfold tithebarnkit_SameInts.f; rw [if_pos (by omega)]; rfl) (same_l0 a b h hl a.length 0 (by omega) (fun q hq => absurd hq (Nat.not_lt_zero _)))
  · rw [decide_eq_false (fun e => h (by rw [e]))]
    exact Ev.congr (f := fun _ => some false) (fun k => by unfold tithebarnkit_SameInts.f; rw [if_neg (by omega)]) (Ev.now _)
/-- What of a clause is left, told by lists. -/
def leftL (set : List Int) : List Int → List Int → List Int × Bool
  | [], l => (l, false)
  | y :: c, l => if set.contains y then ([], true) else if set.contains (-y) then leftL set c l else if l.contains y then leftL set c l else leftL set c (l ++ [y])
theorem left_l0 (c set : List Int) (hc : c.length ≤ 1000000000) (hs : set.length ≤ 1000000000) (hb : ∀ y ∈ c, -100000 ≤ y ∧ y ≤ 100000) : ∀ (d i : Nat) (l : List Int), i + d = c.length → l.length ≤ i → Ev (fun k => tithebarnref16_left.l0 k c set l i) (leftL set (c.drop i) l) := by
  intro d
  induction d with
  | zero =>
    intro i l hi hl
    rw [List.drop_eq_nil_of_le (by omega)]
    refine Ev.step (f := fun _ => some (l, false)) (fun k => ?_) (Ev.now _)
    simp only [tithebarnref16_left.l0]
    rw [if_neg (by omega)]
  | succ d ih =>
    intro i l hi hl
    obtain ⟨b1, b2⟩ := hb (c.getD i 0) (getD_in 0 (by omega))
    rw [getD_drop c i (by omega)]
    have hstep : ∀ k, tithebarnref16_left.l0 (k + 1) c set l i = (tithebarnref16_Has.f k set (c.getD i 0)).bind fun t190 => (if t190 = true then (some (([] : List Int), true)) else ((tithebarnref16_Has.f k set (-(c.getD i 0))).bind fun t192 => (if t192 = true then (tithebarnref16_left.l0 k c set l ((i + 1 : Nat) : Int)) else ((tithebarnref16_Has.f k l (c.getD i 0)).bind fun t194 => (if t194 = true then (tithebarnref16_left.l0 k c set l ((i + 1 : Nat) : Int)) else (if l.length < 17592186044416 then (tithebarnref16_left.l0 k c set (l ++ [c.getD i 0]) ((i + 1 : Nat) : Int)) else (none))))))) := by
      intro k
      simp only [tithebarnref16_left.l0]
      rw [if_pos (by omega), if_pos (by omega), rd_nat, wrap_id (by omega) (by omega), wrap_id (by omega) (by omega)]
      rfl
    refine Ev.step hstep (Ev.bind (has_ev set _ hs) ?_)
    unfold leftL
    cases h1 : set.contains (c.getD i 0) with
    | true => exact Ev.ite_pos rfl (Ev.now _)
    | false =>
      refine Ev.ite_neg (by simp) (Ev.bind (has_ev set _ hs) ?_)
      cases h2 : set.contains (-(c.getD i 0)) with
      | true => exact Ev.ite_pos rfl (ih (i + 1) l (by omega) (by omega))
      | false =>
        refine Ev.ite_neg (by simp) (Ev.bind (has_ev l _ (by omega)) ?_)
        cases h3 : l.contains (c.getD i 0) with
        | true => exact Ev.ite_pos rfl (ih (i + 1) l (by omega) (by omega))
        | false => exact Ev.ite_neg (by simp) (Ev.ite_pos (by omega) (ih (i + 1) (l ++ [c.getD i 0]) (by omega) (by simp; omega)))
theorem left_ev (c set : List Int) (hc : c.length ≤ 1000000000) (hs : set.length ≤ 1000000000) (hb : ∀ y ∈ c, -100000 ≤ y ∧ y ≤ 100000) : Ev (fun k => tithebarnref16_left.f k c set) (leftL set c []) := left_l0 c set hc hs hb c.length 0 [] (by omega) (Nat.le_refl _)
/-- The row and the places tell the same. -/
structure Tells (n : Nat) (row s : List Int) : Prop where
  inv : SInv n row s
  all : ∀ y ∈ row, y ≠ 0 ∧ y.natAbs ≤ n ∧ s.getD y.natAbs 0 = y
theorem Tells.mem {n : Nat} {row s : List Int} (h : Tells n row s) {y : Int} (h0 : y ≠ 0) (h1 : y.natAbs ≤ n) : s.getD y.natAbs 0 = y ↔ y ∈ row := by
  constructor
  · intro e
    rcases h.inv.at_ y.natAbs h1 with h2 | ⟨_, h3, _⟩
    · rw [h2] at e; exact absurd e.symm h0
    · rwa [e] at h3
  · intro hy; exact (h.all y hy).2.2
theorem Tells.opp {n : Nat} {row s : List Int} (h : Tells n row s) {y : Int} (h0 : y ≠ 0) (h1 : y.natAbs ≤ n) : s.getD y.natAbs 0 = -y ↔ -y ∈ row := by
  have := h.mem (y := -y) (by omega) (by omega)
  rw [Int.natAbs_neg] at this
  exact this
/-- What is open of a clause: the two tellings side by side. -/
theorem open_left {n : Nat} {row s : List Int} (h : Tells n row s) : ∀ (c l : List Int) (x : Int) (b : Bool), (∀ y ∈ c, y ≠ 0 ∧ y.natAbs ≤ n) → (x = 0 ↔ l = []) → (b = false → l = [] ∨ l = [x]) → (b = true → 2 ≤ l.length) →
    ((leftL row c l).2 = true ∧ openL (s.getD · 0) c x b = (0, true)) ∨
    ((leftL row c l).2 = false ∧ ((openL (s.getD · 0) c x b).1 = 0 ↔ (leftL row c l).1 = []) ∧ ((openL (s.getD · 0) c x b).2 = false → (leftL row c l).1 = [] ∨ (leftL row c l).1 = [(openL (s.getD · 0) c x b).1]) ∧ ((openL (s.getD · 0) c x b).2 = true → 2 ≤ (leftL row c l).1.length)) := by
  intro c
  induction c with
  | nil => intro l x b _ h1 h2 h3; exact .inr ⟨rfl, h1, h2, h3⟩
  | cons y c ih =>
    intro l x b hc h1 h2 h3
    obtain ⟨y0, y1⟩ := hc y List.mem_cons_self
    have hc' : ∀ y ∈ c, y ≠ 0 ∧ y.natAbs ≤ n := fun z hz => hc z (List.mem_cons_of_mem _ hz)
    by_cases m1 : y ∈ row
    · left
      have e := (h.mem y0 y1).2 m1
      refine ⟨?_, ?_⟩
      · unfold leftL; rw [if_pos (by simpa using m1)]
      · unfold openL; rw [if_pos e]
    · have e1 : ¬ s.getD y.natAbs 0 = y := fun e => m1 ((h.mem y0 y1).1 e)
      have L1 : leftL row (y :: c) l = if row.contains (-y) then leftL row c l else if l.contains y then leftL row c l else leftL row c (l ++ [y]) := by
        conv => lhs; unfold leftL
        rw [if_neg (by simpa using m1)]
      by_cases m2 : -y ∈ row
      · have e2 := (h.opp y0 y1).2 m2
        have L2 : leftL row (y :: c) l = leftL row c l := by rw [L1, if_pos (by simpa using m2)]
        have O2 : openL (s.getD · 0) (y :: c) x b = openL (s.getD · 0) c x b := by
          conv => lhs; unfold openL
          rw [if_neg e1, if_pos e2]
        rw [L2, O2]
        exact ih l x b hc' h1 h2 h3
      · have e2 : ¬ s.getD y.natAbs 0 = -y := fun e => m2 ((h.opp y0 y1).1 e)
        have L2 : leftL row (y :: c) l = if l.contains y then leftL row c l else leftL row c (l ++ [y]) := by rw [L1, if_neg (by simpa using m2)]
        have O2 : openL (s.getD · 0) (y :: c) x b = if x ≠ 0 ∧ x ≠ y then openL (s.getD · 0) c x true else openL (s.getD · 0) c y b := by
          conv => lhs; unfold openL
          rw [if_neg e1, if_neg e2]
        rw [L2, O2]
        by_cases hx : x ≠ 0 ∧ x ≠ y
        · rw [if_pos hx]
          have hl : l ≠ [] := fun e => hx.1 (h1.2 e)
          by_cases hm : y ∈ l
          · rw [if_pos (by simpa using hm)]
            refine ih l x true hc' h1 (fun e => by cases e) (fun _ => ?_)
            cases b with
            | true => exact h3 rfl
            | false =>
              rcases h2 rfl with e | e
              · exact absurd e hl
              · rw [e] at hm; exact absurd (List.mem_singleton.1 hm).symm hx.2
          · rw [if_neg (by simpa using hm)]
            refine ih (l ++ [y]) x true hc' ⟨fun e => absurd e hx.1, fun e => by simp at e⟩ (fun e => by cases e) (fun _ => ?_)
            have : 0 < l.length := List.length_pos_iff.2 hl
            simp; omega
        · rw [if_neg hx]
          by_cases hx0 : x = 0
          · have hl : l = [] := h1.1 hx0
            subst hl
            rw [if_neg (by simp)]
            refine ih ([] ++ [y]) y b hc' ⟨fun e => absurd e y0, fun e => by simp at e⟩ (fun _ => .inr rfl) (fun e => ?_)
            have := h3 e
            simp at this
          · have hxy : x = y := by
              by_cases e : x = y
              · exact e
              · exact absurd ⟨hx0, e⟩ hx
            subst hxy
            have hl : l ≠ [] := fun e => hx0 (h1.2 e)
            by_cases hm : x ∈ l
            · rw [if_pos (by simpa using hm)]
              exact ih l x b hc' h1 h2 h3
            · rw [if_neg (by simpa using hm)]
              refine ih (l ++ [x]) x b hc' ⟨fun e => absurd e hx0, fun e => by simp at e⟩ (fun e => ?_) (fun e => by have := h3 e; simp; omega)
              rcases h2 e with e' | e'
              · exact absurd e' hl
              · rw [e'] at hm; simp at hm
theorem left_all (row : List Int) : ∀ (c l : List Int), (leftL row c l).2 = false → ∀ y ∈ c, -y ∈ row ∨ y ∈ (leftL row c l).1 := by
  have grow : ∀ (c l : List Int), (leftL row c l).2 = false → ∀ y ∈ l, y ∈ (leftL row c l).1 := by
    intro c
    induction c with
    | nil => intro l _ y hy; exact hy
    | cons z c ih =>
      intro l h y hy
      unfold leftL at h ⊢
      by_cases h1 : row.contains z
      · rw [if_pos h1] at h; cases h
      · rw [if_neg h1] at h ⊢
        by_cases h2 : row.contains (-z)
        · rw [if_pos h2] at h ⊢; exact ih _ h y hy
        · rw [if_neg h2] at h ⊢
          by_cases h3 : l.contains z
          · rw [if_pos h3] at h ⊢; exact ih _ h y hy
          · rw [if_neg h3] at h ⊢; exact ih _ h y (List.mem_append_left _ hy)
  intro c
  induction c with
  | nil => intro l _ y hy; simp at hy
  | cons z c ih =>
    intro l h y hy
    unfold leftL at h ⊢
    by_cases h1 : row.contains z
    · rw [if_pos h1] at h; cases h
    · rw [if_neg h1] at h ⊢
      by_cases h2 : row.contains (-z)
      · rw [if_pos h2] at h ⊢
        rcases List.mem_cons.1 hy with rfl | hy
        · left; simpa using h2
        · exact ih _ h y hy
      · rw [if_neg h2] at h ⊢
        by_cases h3 : l.contains z
        · rw [if_pos h3] at h ⊢
          rcases List.mem_cons.1 hy with rfl | hy
          · right; exact grow _ _ h _ (by simpa using h3)
          · exact ih _ h y hy
        · rw [if_neg h3] at h ⊢
          rcases List.mem_cons.1 hy with rfl | hy
          · right; exact grow _ _ h _ (List.mem_append_right _ (by simp))
          · exact ih _ h y hy
end Go.Proofs.Ytjghhdgebmoohaa
