/- Plain: the reference's formulas: Few, Check, Unit. -/
import Derived.Test.YtghecdmcghppnaaDoorRefH
import Derived.Test.YtghecdmcghppnaaDoorPCnfx3
import Derived.Test.YtghecdmcghppnaaDoorPCnfx9
namespace Go.Proofs.YtghecdmcghppnaaDoor
open Go.RowKit Go.Proofs.YtghecdmcghppnaaDoorW.PrintWords Go.Proofs.YtghecdmcghppnaaDoorW.PrintLast Go.Proofs.YtghecdmcghppnaaDoorW.PrintMore PCnf
set_option linter.unusedVariables false
set_option linter.unusedSimpArgs false
theorem wrap_id {x : Int} (h1 : -9223372036854775808 ≤ x) (h2 : x ≤ 9223372036854775807) : wrap64 x = x := by unfold wrap64; omega
theorem Ev.ite_pos {α : Type} {c : Prop} [Decidable c] {f g : Nat → Option α} {r : α} (h : c) (k : Ev f r) : Ev (fun n => if c then f n else g n) r := Ev.congr (fun n => if_pos h) k
theorem Ev.ite_neg {α : Type} {c : Prop} [Decidable c] {f g : Nat → Option α} {r : α} (h : ¬c) (k : Ev g r) : Ev (fun n => if c then f n else g n) r := Ev.congr (fun n => if_neg h) k
theorem Ev.some_bind {α β : Type} {a : α} {f : Nat → α → Option β} {r : β} (k : Ev (fun n => f n a) r) : Ev (fun n => (some a).bind (f n)) r := Ev.congr (fun n => rfl) k
theorem Ev.obind {α β : Type} {o : Option α} {a : α} {f : Nat → α → Option β} {r : β} (h : o = some a) (k : Ev (fun n => f n a) r) : Ev (fun n => o.bind (f n)) r := by
  subst h; exact Ev.some_bind k
theorem rd_nat (xs : List Int) (i : Nat) : rd xs (i : Int) = xs.getD i 0 := rfl
theorem rdL_nat (xs : List (List Int)) (i : Nat) : rd_L1 xs (i : Int) = xs.getD i [] := rfl
theorem getD_in {α : Type} {l : List α} {i : Nat} (d : α) (h : i < l.length) : l.getD i d ∈ l := by
  rw [List.getD_eq_getElem?_getD, List.getElem?_eq_getElem h]
  exact List.getElem_mem h
theorem all_getD {α : Type} {l : List α} {p : α → Bool} (d : α) (h : ∀ q, q < l.length → p (l.getD q d) = true) : l.all p = true := by
  rw [List.all_eq_true]
  intro x hx
  obtain ⟨q, hq, rfl⟩ := List.getElem_of_mem hx
  have := h q hq
  rwa [List.getD_eq_getElem?_getD, List.getElem?_eq_getElem hq] at this
/-- Few: where it says yes, the bounds hold. -/
theorem few_l0 (l : List (List Int)) (top : Int) (h0 : 0 ≤ top) (ht : top ≤ 100000) (hl : l.length ≤ 100000) : ∀ (d i : Nat), i + d = l.length → (total (l.take i) : Int) ≤ top →
    ∃ b, Ev (fun k => tithebarnkit_Few.l0 k l top (total (l.take i)) i) b ∧ (b = true → (total l : Int) ≤ top) := by
  intro d
  induction d with
  | zero =>
    intro i hi hb
    refine ⟨true, Ev.step (f := fun _ => some true) (fun k => ?_) (Ev.now _), fun _ => ?_⟩
    · simp only [tithebarnkit_Few.l0]
      rw [if_neg (by omega)]
    · have : l.take i = l := List.take_of_length_le (by omega)
      rwa [this] at hb
  | succ d ih =>
    intro i hi hb
    have hs := total_snoc l i (by omega)
    have hw : wrap64 (top - (total (l.take i) : Int)) = top - total (l.take i) := wrap_id (by omega) (by omega)
    by_cases hc : ((l.getD i []).length : Int) > top - total (l.take i)
    · refine ⟨false, Ev.step (f := fun _ => some false) (fun k => ?_) (Ev.now _), fun h => by cases h⟩
      simp only [tithebarnkit_Few.l0]
      rw [if_pos (by omega), if_pos (by omega), rdL_nat, hw, if_pos hc]
    · obtain ⟨b, h1, h2⟩ := ih (i + 1) (by omega) (by omega)
      refine ⟨b, Ev.step (fun k => ?_) h1, h2⟩
      simp only [tithebarnkit_Few.l0]
      rw [if_pos (by omega), if_pos (by omega), rdL_nat, hw, if_neg hc, wrap_id (by omega) (by omega), wrap_id (by omega) (by omega)]
      rw [show ((total (l.take i) : Int) + ((l.getD i []).length : Int)) = ((total (l.take (i + 1)) : Nat) : Int) by omega, show ((i : Int) + 1) = ((i + 1 : Nat) : Int) by omega]
theorem few_ev (v : Int) (l : List (List Int)) (top : Int) (h0 : 0 ≤ top) (ht : top ≤ 100000) :
    ∃ b, Ev (fun k => tithebarnkit_Few.f k v l top) b ∧ (b = true → v ≤ top ∧ (l.length : Int) ≤ top ∧ (total l : Int) ≤ top) := by
  by_cases h1 : v > top
  · refine ⟨false, Ev.congr (f := fun k => tithebarnkit_Few.j0 k l top true) (fun k => by unfold tithebarnkit_Few.f; rw [if_pos h1]) (Ev.step (f := fun _ => some false) (fun k => by simp only [tithebarnkit_Few.j0]; simp) (Ev.now _)), fun h => by cases h⟩
  · by_cases h2 : (l.length : Int) > top
    · refine ⟨false, Ev.congr (f := fun k => tithebarnkit_Few.j0 k l top true) (fun k => by unfold tithebarnkit_Few.f; rw [if_neg h1, decide_eq_true h2]) (Ev.step (f := fun _ => some false) (fun k => by simp only [tithebarnkit_Few.j0]; simp) (Ev.now _)), fun h => by cases h⟩
    · obtain ⟨b, e1, e2⟩ := few_l0 l top h0 ht (by omega) l.length 0 (by omega) (by simpa [total] using h0)
      refine ⟨b, Ev.congr (f := fun k => tithebarnkit_Few.j0 k l top false) (fun k => by unfold tithebarnkit_Few.f; rw [if_neg h1, decide_eq_false h2]) (Ev.step (f := fun k => tithebarnkit_Few.l0 k l top 0 0) (fun k => by simp only [tithebarnkit_Few.j0]; rw [if_neg (by simp)]) (by simpa [total] using e1)), fun h => ⟨by omega, by omega, e2 h⟩⟩
theorem lit_f (x n : Int) : tithebarnref16_lit.f x n = some (litB x n) := by
  unfold tithebarnref16_lit.f litB
  by_cases h1 : x = 0
  · rw [if_pos h1]; simp [h1]
  · rw [if_neg h1]
    by_cases h2 : x ≥ wrap64 (-n)
    · rw [if_pos h2]; simp [h1, h2]
    · rw [if_neg h2]; simp [h1, h2]
theorem refCount_l0 (a : Int) (l : List (List Int)) (hl : l.length ≤ 1000000000) (ht : total l ≤ 1000000000) : ∀ (d i : Nat), i + d = l.length → Ev (fun k => tithebarnref16_Count.l0 k (total (l.take i)) i a l) (total l : Int) := by
  intro d
  induction d with
  | zero =>
    intro i hi
    refine Ev.step (f := fun _ => some (total l : Int)) (fun k => ?_) (Ev.now _)
    simp only [tithebarnref16_Count.l0]
    rw [if_neg (by omega), List.take_of_length_le (by omega)]
  | succ d ih =>
    intro i hi
    have hs := total_snoc l i (by omega)
    have h3 := total_take_le l (i + 1)
    refine Ev.step (fun k => ?_) (ih (i + 1) (by omega))
    simp only [tithebarnref16_Count.l0]
    rw [if_pos (by omega), if_pos (by omega), rdL_nat, wrap_id (by omega) (by omega), wrap_id (by omega) (by omega)]
    rw [show ((total (l.take i) : Int) + ((l.getD i []).length : Int)) = ((total (l.take (i + 1)) : Nat) : Int) by omega, show ((i : Int) + 1) = ((i + 1 : Nat) : Int) by omega]
theorem refCount_ev (a : Int) (l : List (List Int)) (hl : l.length ≤ 1000000000) (ht : total l ≤ 1000000000) : Ev (fun k => tithebarnref16_Count.f k a l) (total l : Int) := by
  have := refCount_l0 a l hl ht l.length 0 (by omega)
  simpa [total, tithebarnref16_Count.f] using this
theorem refCheck_l1 (n : Int) (l : List (List Int)) (hl : l.length ≤ 1000000000) (ht : total l ≤ 1000000000) (R : Int) (i : Nat) (hi : i < l.length) (hnext : (allB (l.getD i []) n = true → Ev (fun k => tithebarnref16_Check.l0 k ((i + 1 : Nat) : Int) n l) R)) (hR : allB (l.getD i []) n = false → R = 2) :
    ∀ (d j : Nat), j + d = (l.getD i []).length → (∀ q, q < j → litB ((l.getD i []).getD q 0) n = true) → Ev (fun k => tithebarnref16_Check.l1 k i j n l) R := by
  have hlen : (l.getD i []).length ≤ 1000000000 := by
    have := total_snoc l i hi
    have := total_take_le l (i + 1)
    omega
  intro d
  induction d with
  | zero =>
    intro j hj hq
    refine Ev.step (fun k => ?_) (hnext ?_)
    · simp only [tithebarnref16_Check.l1]
      rw [if_pos (by omega), if_pos (by omega), rdL_nat, if_neg (by omega), wrap_id (by omega) (by omega)]
      rfl
    · exact all_getD 0 (fun q hq' => hq q (by omega))
  | succ d ih =>
    intro j hj hq
    cases hb : litB ((l.getD i []).getD j 0) n with
    | true =>
      refine Ev.step (fun k => ?_) (ih (j + 1) (by omega) (fun q hq' => by
        by_cases e : q = j
        · rw [e]; exact hb
        · exact hq q (by omega)))
      simp only [tithebarnref16_Check.l1]
      rw [if_pos (by omega), if_pos (by omega), rdL_nat, if_pos (by omega), if_pos (by omega), rd_nat, lit_f, hb, Option.bind_some, if_pos rfl, wrap_id (by omega) (by omega)]
      rfl
    | false =>
      have hf : allB (l.getD i []) n = false := by
        unfold allB
        rw [List.all_eq_false]
        exact ⟨(l.getD i []).getD j 0, getD_in 0 (by omega), by rw [hb]; simp⟩
      rw [hR hf]
      refine Ev.step (f := fun _ => some 2) (fun k => ?_) (Ev.now _)
      simp only [tithebarnref16_Check.l1]
      rw [if_pos (by omega), if_pos (by omega), rdL_nat, if_pos (by omega), if_pos (by omega), rd_nat, lit_f, hb, Option.bind_some, if_neg (by simp)]
theorem refCheck_l0 (n : Int) (l : List (List Int)) (hl : l.length ≤ 1000000000) (ht : total l ≤ 1000000000) : ∀ (d i : Nat), i + d = l.length → (∀ q, q < i → allB (l.getD q []) n = true) →
    Ev (fun k => tithebarnref16_Check.l0 k i n l) (if l.all (fun c => allB c n) then (0 : Int) else 2) := by
  intro d
  induction d with
  | zero =>
    intro i hi hq
    have : l.all (fun c => allB c n) = true := all_getD [] (fun q hq' => hq q (by omega))
    rw [this, if_pos rfl]
    refine Ev.step (f := fun _ => some 0) (fun k => ?_) (Ev.now _)
    simp only [tithebarnref16_Check.l0]
    rw [if_neg (by omega)]
  | succ d ih =>
    intro i hi hq
    refine Ev.step (f := fun k => tithebarnref16_Check.l1 k i ((0 : Nat) : Int) n l) (fun k => ?_) (refCheck_l1 n l hl ht _ i (by omega) (fun hb => ih (i + 1) (by omega) (fun q hq' => ?_)) (fun hb => ?_) _ 0 (Nat.zero_add _) (fun q hq' => absurd hq' (Nat.not_lt_zero _)))
    · simp only [tithebarnref16_Check.l0]
      rw [if_pos (by omega)]
      rfl
    · by_cases e : q = i
      · rw [e]; exact hb
      · exact hq q (by omega)
    · rw [if_neg]
      rw [List.all_eq_true]
      intro h
      have := h (l.getD i []) (getD_in [] (by omega))
      rw [hb] at this
      cases this
theorem refCheck_ev (n : Int) (l : List (List Int)) (hl : l.length ≤ 1000000000) (ht : total l ≤ 1000000000) : Ev (fun k => tithebarnref16_Check.f k n l) (checkZ n l) := by
  unfold checkZ
  by_cases h1 : n > 100000
  · rw [if_pos h1]
    refine Ev.congr (f := fun k => tithebarnref16_Check.j0 k true n l) (fun k => by unfold tithebarnref16_Check.f; rw [if_pos h1]) (Ev.step (f := fun _ => some 160) (fun k => by simp only [tithebarnref16_Check.j0]; simp) (Ev.now _))
  · rw [if_neg h1]
    refine Ev.congr (f := fun k => (tithebarnref16_Count.f k n l).bind fun t106 => tithebarnref16_Check.j0 k (decide (t106 > 1000000)) n l) (fun k => by unfold tithebarnref16_Check.f; rw [if_neg h1]) (Ev.bind (refCount_ev n l hl ht) ?_)
    by_cases h2 : total l > 1000000
    · rw [if_pos h2]
      have e : decide ((total l : Int) > 1000000) = true := decide_eq_true (by omega)
      rw [e]
      exact Ev.step (f := fun _ => some 160) (fun k => by simp only [tithebarnref16_Check.j0]; simp) (Ev.now _)
    · rw [if_neg h2]
      have e : decide ((total l : Int) > 1000000) = false := decide_eq_false (by omega)
      rw [e]
      by_cases h3 : n < 0
      · rw [if_pos h3]
        exact Ev.step (f := fun _ => some 2) (fun k => by simp only [tithebarnref16_Check.j0]; rw [if_neg (by simp), if_pos h3]) (Ev.now _)
      · rw [if_neg h3]
        refine Ev.step (f := fun k => tithebarnref16_Check.l0 k ((0 : Nat) : Int) n l) (fun k => by simp only [tithebarnref16_Check.j0]; rw [if_neg (by simp), if_neg h3]; rfl) (refCheck_l0 n l hl ht l.length 0 (by omega) (fun q hq => absurd hq (Nat.not_lt_zero _)))
theorem lits_ok {n : Int} {l : List (List Int)} (hz : checkZ n l = 0) : ∀ c ∈ l, ∀ y ∈ c, y ≠ 0 ∧ -100000 ≤ y ∧ y ≤ 100000 ∧ (y.natAbs : Int) ≤ n := by
  obtain ⟨h0, h1, _, hcl⟩ := checkZ_zero hz
  intro c hc y hy
  have h := hcl c hc
  unfold allB at h
  rw [List.all_eq_true] at h
  exact litB_bounds (h y hy) h0 h1
theorem total_get (l : List (List Int)) (q : Nat) (h : q < l.length) : (l.getD q []).length ≤ total l := by
  have := total_snoc l q h
  have := total_take_le l (q + 1)
  omega
theorem has_l0 (l : List Int) (x : Int) (hl : l.length ≤ 1000000000) : ∀ (d i : Nat), i + d = l.length → (∀ q, q < i → l.getD q 0 ≠ x) → Ev (fun k => tithebarnref16_Has.l0 k l x i) (l.contains x) := by
  intro d
  induction d with
  | zero =>
    intro i hi hq
    have : l.contains x = false := by
      simp only [List.contains_eq_mem, decide_eq_false_iff_not]
      intro hx
      obtain ⟨q, hq', rfl⟩ := List.getElem_of_mem hx
      exact hq q (by omega) (by simp [hq'])
    rw [this]
    refine Ev.step (f := fun _ => some false) (fun k => ?_) (Ev.now _)
    simp only [tithebarnref16_Has.l0]
    rw [if_neg (by omega)]
  | succ d ih =>
    intro i hi hq
    by_cases e : l.getD i 0 = x
    · have : l.contains x = true := by
        simp only [List.contains_eq_mem, decide_eq_true_eq]
        rw [← e]; exact getD_in 0 (by omega)
      rw [this]
      refine Ev.step (f := fun _ => some true) (fun k => ?_) (Ev.now _)
      simp only [tithebarnref16_Has.l0]
      rw [if_pos (by omega), if_pos (by omega), rd_nat, if_pos e]
    · refine Ev.step (fun k => ?_) (ih (i + 1) (by omega) (fun q hq' => by
        by_cases e' : q = i
        · rw [e']; exact e
        · exact hq q (by omega)))
      simp only [tithebarnref16_Has.l0]
      rw [if_pos (by omega), if_pos (by omega), rd_nat, if_neg e, wrap_id (by omega) (by omega)]
      rfl
theorem has_ev (l : List Int) (x : Int) (hl : l.length ≤ 1000000000) : Ev (fun k => tithebarnref16_Has.f k l x) (l.contains x) := has_l0 l x hl l.length 0 (by omega) (fun q hq => absurd hq (Nat.not_lt_zero _))
theorem same_l0 (a b : List Int) (he : a.length = b.length) (hl : a.length ≤ 1000000000) : ∀ (d i : Nat), i + d = a.length → (∀ q, q < i → a.getD q 0 = b.getD q 0) → Ev (fun k => tithebarnkit_SameInts.l0 k a b i) (decide (a = b)) := by
  intro d
  induction d with
  | zero =>
    intro i hi hq
    have : a = b := List.ext_getElem he (fun q q1 q2 => by have := hq q (by omega); simpa [q1, q2] using this)
    rw [decide_eq_true this]
    refine Ev.step (f := fun _ => some true) (fun k => ?_) (Ev.now _)
    simp only [tithebarnkit_SameInts.l0]
    rw [if_neg (by omega)]
  | succ d ih =>
    intro i hi hq
    by_cases e : a.getD i 0 = b.getD i 0
    · refine Ev.step (fun k => ?_) (ih (i + 1) (by omega) (fun q hq' => by
        by_cases e' : q = i
        · rw [e']; exact e
        · exact hq q (by omega)))
      simp only [tithebarnkit_SameInts.l0]
      rw [if_pos (by omega), if_pos (by omega), if_pos (by omega), rd_nat, rd_nat, if_pos e, wrap_id (by omega) (by omega)]
      rfl
    · rw [decide_eq_false (fun h => e (by rw [h]))]
      refine Ev.step (f := fun _ => some false) (fun k => ?_) (Ev.now _)
      simp only [tithebarnkit_SameInts.l0]
      rw [if_pos (by omega), if_pos (by omega), if_pos (by omega), rd_nat, rd_nat, if_neg e]
theorem same_ev (a b : List Int) (hl : a.length ≤ 1000000000) : Ev (fun k => tithebarnkit_SameInts.f k a b) (decide (a = b)) := by
  by_cases h : a.length = b.length
  · refine Ev.congr (f := fun k => tithebarnkit_SameInts.l0 k a b ((0 : Nat) : Int)) (fun k => by unfold tithebarnkit_SameInts.f; rw [if_pos (by omega)]; rfl) (same_l0 a b h hl a.length 0 (by omega) (fun q hq => absurd hq (Nat.not_lt_zero _)))
  · rw [decide_eq_false (fun e => h (by rw [e]))]
    exact Ev.congr (f := fun _ => some false) (fun k => by unfold tithebarnkit_SameInts.f; rw [if_neg (by omega)]) (Ev.now _)
/-- What of a clause is left, told by lists. -/
def leftL (set : List Int) : List Int → List Int → List Int × Bool
  | [], l => (l, false)
  | y :: c, l => if set.contains y then ([], true) else if set.contains (-y) then leftL set c l else if l.contains y then leftL set c l else leftL set c (l ++ [y])
theorem left_l0 (c set : List Int) (hc : c.length ≤ 1000000000) (hs : set.length ≤ 1000000000) (hb : ∀ y ∈ c, -100000 ≤ y ∧ y ≤ 100000) : ∀ (d i : Nat) (l : List Int), i + d = c.length → l.length ≤ i → Ev (fun k => tithebarnref16_left.l0 k c set l i) (leftL set (c.drop i) l) := by
  intro d
  induction d with
  | zero =>
    intro i l hi hl
    rw [List.drop_eq_nil_of_le (by omega)]
    refine Ev.step (f := fun _ => some (l, false)) (fun k => ?_) (Ev.now _)
    simp only [tithebarnref16_left.l0]
    rw [if_neg (by omega)]
  | succ d ih =>
    intro i l hi hl
    obtain ⟨b1, b2⟩ := hb (c.getD i 0) (getD_in 0 (by omega))
    rw [getD_drop c i (by omega)]
    have hstep : ∀ k, tithebarnref16_left.l0 (k + 1) c set l i = (tithebarnref16_Has.f k set (c.getD i 0)).bind fun t190 => (if t190 = true then (some (([] : List Int), true)) else ((tithebarnref16_Has.f k set (-(c.getD i 0))).bind fun t192 => (if t192 = true then (tithebarnref16_left.l0 k c set l ((i + 1 : Nat) : Int)) else ((tithebarnref16_Has.f k l (c.getD i 0)).bind fun t194 => (if t194 = true then (tithebarnref16_left.l0 k c set l ((i + 1 : Nat) : Int)) else (if l.length < 17592186044416 then (tithebarnref16_left.l0 k c set (l ++ [c.getD i 0]) ((i + 1 : Nat) : Int)) else (none))))))) := by
      intro k
      simp only [tithebarnref16_left.l0]
      rw [if_pos (by omega), if_pos (by omega), rd_nat, wrap_id (by omega) (by omega), wrap_id (by omega) (by omega)]
      rfl
    refine Ev.step hstep (Ev.bind (has_ev set _ hs) ?_)
    unfold leftL
    cases h1 : set.contains (c.getD i 0) with
    | true => exact Ev.ite_pos rfl (Ev.now _)
    | false =>
      refine Ev.ite_neg (by simp) (Ev.bind (has_ev set _ hs) ?_)
      cases h2 : set.contains (-(c.getD i 0)) with
      | true => exact Ev.ite_pos rfl (ih (i + 1) l (by omega) (by omega))
      | false =>
        refine Ev.ite_neg (by simp) (Ev.bind (has_ev l _ (by omega)) ?_)
        cases h3 : l.contains (c.getD i 0) with
        | true => exact Ev.ite_pos rfl (ih (i + 1) l (by omega) (by omega))
        | false => exact Ev.ite_neg (by simp) (Ev.ite_pos (by omega) (ih (i + 1) (l ++ [c.getD i 0]) (by omega) (by simp; omega)))
theorem left_ev (c set : List Int) (hc : c.length ≤ 1000000000) (hs : set.length ≤ 1000000000) (hb : ∀ y ∈ c, -100000 ≤ y ∧ y ≤ 100000) : Ev (fun k => tithebarnref16_left.f k c set) (leftL set c []) := left_l0 c set hc hs hb c.length 0 [] (by omega) (Nat.le_refl _)
/-- The row and the places tell the same. -/
structure Tells (n : Nat) (row s : List Int) : Prop where
  inv : SInv n row s
  all : ∀ y ∈ row, y ≠ 0 ∧ y.natAbs ≤ n ∧ s.getD y.natAbs 0 = y
theorem Tells.mem {n : Nat} {row s : List Int} (h : Tells n row s) {y : Int} (h0 : y ≠ 0) (h1 : y.natAbs ≤ n) : s.getD y.natAbs 0 = y ↔ y ∈ row := by
  constructor
  · intro e
    rcases h.inv.at_ y.natAbs h1 with h2 | ⟨_, h3, _⟩
    · rw [h2] at e; exact absurd e.symm h0
    · rwa [e] at h3
  · intro hy; exact (h.all y hy).2.2
theorem Tells.opp {n : Nat} {row s : List Int} (h : Tells n row s) {y : Int} (h0 : y ≠ 0) (h1 : y.natAbs ≤ n) : s.getD y.natAbs 0 = -y ↔ -y ∈ row := by
  have := h.mem (y := -y) (by omega) (by omega)
  rw [Int.natAbs_neg] at this
  exact this
/-- What is open of a clause: the two tellings side by side. -/
theorem open_left {n : Nat} {row s : List Int} (h : Tells n row s) : ∀ (c l : List Int) (x : Int) (b : Bool), (∀ y ∈ c, y ≠ 0 ∧ y.natAbs ≤ n) → (x = 0 ↔ l = []) → (b = false → l = [] ∨ l = [x]) → (b = true → 2 ≤ l.length) →
    ((leftL row c l).2 = true ∧ openL (s.getD · 0) c x b = (0, true)) ∨
    ((leftL row c l).2 = false ∧ ((openL (s.getD · 0) c x b).1 = 0 ↔ (leftL row c l).1 = []) ∧ ((openL (s.getD · 0) c x b).2 = false → (leftL row c l).1 = [] ∨ (leftL row c l).1 = [(openL (s.getD · 0) c x b).1]) ∧ ((openL (s.getD · 0) c x b).2 = true → 2 ≤ (leftL row c l).1.length)) := by
  intro c
  induction c with
  | nil => intro l x b _ h1 h2 h3; exact .inr ⟨rfl, h1, h2, h3⟩
  | cons y c ih =>
    intro l x b hc h1 h2 h3
    obtain ⟨y0, y1⟩ := hc y List.mem_cons_self
    have hc' : ∀ y ∈ c, y ≠ 0 ∧ y.natAbs ≤ n := fun z hz => hc z (List.mem_cons_of_mem _ hz)
    by_cases m1 : y ∈ row
    · left
      have e := (h.mem y0 y1).2 m1
      refine ⟨?_, ?_⟩
      · unfold leftL; rw [if_pos (by simpa using m1)]
      · unfold openL; rw [if_pos e]
    · have e1 : ¬ s.getD y.natAbs 0 = y := fun e => m1 ((h.mem y0 y1).1 e)
      have L1 : leftL row (y :: c) l = if row.contains (-y) then leftL row c l else if l.contains y then leftL row c l else leftL row c (l ++ [y]) := by
        conv => lhs; unfold leftL
        rw [if_neg (by simpa using m1)]
      by_cases m2 : -y ∈ row
      · have e2 := (h.opp y0 y1).2 m2
        have L2 : leftL row (y :: c) l = leftL row c l := by rw [L1, if_pos (by simpa using m2)]
        have O2 : openL (s.getD · 0) (y :: c) x b = openL (s.getD · 0) c x b := by
          conv => lhs; unfold openL
          rw [if_neg e1, if_pos e2]
        rw [L2, O2]
        exact ih l x b hc' h1 h2 h3
      · have e2 : ¬ s.getD y.natAbs 0 = -y := fun e => m2 ((h.opp y0 y1).1 e)
        have L2 : leftL row (y :: c) l = if l.contains y then leftL row c l else leftL row c (l ++ [y]) := by rw [L1, if_neg (by simpa using m2)]
        have O2 : openL (s.getD · 0) (y :: c) x b = if x ≠ 0 ∧ x ≠ y then openL (s.getD · 0) c x true else openL (s.getD · 0) c y b := by
          conv => lhs; unfold openL
          rw [if_neg e1, if_neg e2]
        rw [L2, O2]
        by_cases hx : x ≠ 0 ∧ x ≠ y
        · rw [if_pos hx]
          have hl : l ≠ [] := fun e => hx.1 (h1.2 e)
          by_cases hm : y ∈ l
          · rw [if_pos (by simpa using hm)]
            refine ih l x true hc' h1 (fun e => by cases e) (fun _ => ?_)
            cases b with
            | true => exact h3 rfl
            | false =>
              rcases h2 rfl with e | e
              · exact absurd e hl
              · rw [e] at hm; exact absurd (List.mem_singleton.1 hm).symm hx.2
          · rw [if_neg (by simpa using hm)]
            refine ih (l ++ [y]) x true hc' ⟨fun e => absurd e hx.1, fun e => by simp at e⟩ (fun e => by cases e) (fun _ => ?_)
            have : 0 < l.length := List.length_pos_iff.2 hl
            simp; omega
        · rw [if_neg hx]
          by_cases hx0 : x = 0
          · have hl : l = [] := h1.1 hx0
            subst hl
            rw [if_neg (by simp)]
            refine ih ([] ++ [y]) y b hc' ⟨fun e => absurd e y0, fun e => by simp at e⟩ (fun _ => .inr rfl) (fun e => ?_)
            have := h3 e
            simp at this
          · have hxy : x = y := by
              by_cases e : x = y
              · exact e
              · exact absurd ⟨hx0, e⟩ hx
            subst hxy
            have hl : l ≠ [] := fun e => hx0 (h1.2 e)
            by_cases hm : x ∈ l
            · rw [if_pos (by simpa using hm)]
              exact ih l x b hc' h1 h2 h3
            · rw [if_neg (by simpa using hm)]
              refine ih (l ++ [x]) x b hc' ⟨fun e => absurd e hx0, fun e => by simp at e⟩ (fun e => ?_) (fun e => by have := h3 e; simp; omega)
              rcases h2 e with e' | e'
              · exact absurd e' hl
              · rw [e'] at hm; simp at hm
theorem getD_set_ne {s : List Int} {i j : Nat} {x : Int} (h : i ≠ j) : (s.set i x).getD j 0 = s.getD j 0 := by
  simp [List.getD, List.getElem?_set, h]
theorem getD_set_eq {s : List Int} {i : Nat} {x : Int} (h : i < s.length) : (s.set i x).getD i 0 = x := by
  simp [List.getD, List.getElem?_set, h]
theorem Tells.put {n : Nat} {row s : List Int} (h : Tells n row s) {x : Int} (h0 : x ≠ 0) (h1 : x.natAbs ≤ n) (hs : s.getD x.natAbs 0 = 0) : Tells n (row ++ [x]) (s.set x.natAbs x) := by
  refine ⟨h.inv.put x h0 h1, fun y hy => ?_⟩
  rcases List.mem_append.1 hy with hy | hy
  · obtain ⟨a, b, c⟩ := h.all y hy
    refine ⟨a, b, ?_⟩
    by_cases e : x.natAbs = y.natAbs
    · rw [← e, hs] at c; exact absurd c.symm a
    · rw [getD_set_ne e]; exact c
  · rw [List.mem_singleton.1 hy]
    exact ⟨h0, h1, getD_set_eq (by have := h.inv.len; omega)⟩
/-- What holds of the state while the first literals are put. -/
structure PInv (n : Nat) (st : List Int × Bool × List Int) : Prop where
  inv : SInv n st.1 st.2.2
  ok : ∀ y ∈ st.1, y ≠ 0 ∧ y.natAbs ≤ n
  yes : st.2.1 = false → ∀ y ∈ st.1, st.2.2.getD y.natAbs 0 = y
  no : st.2.1 = true → ∃ y ∈ st.1, -y ∈ st.1
theorem PInv.step {n : Nat} {st : List Int × Bool × List Int} (h : PInv n st) {x : Int} (h0 : x ≠ 0) (h1 : x.natAbs ≤ n) : PInv n (putStep st x) := by
  obtain ⟨row, cl, s⟩ := st
  have hok : ∀ y ∈ row ++ [x], y ≠ 0 ∧ y.natAbs ≤ n := fun y hy => by
    rcases List.mem_append.1 hy with hy | hy
    · exact h.ok y hy
    · rw [List.mem_singleton.1 hy]; exact ⟨h0, h1⟩
  unfold putStep
  by_cases c1 : row.contains x
  · rw [if_pos c1]; exact h
  · rw [if_neg c1]
    have hm : x ∉ row := by simpa using c1
    by_cases c2 : s.getD x.natAbs 0 = -x
    · rw [if_pos c2]
      refine ⟨h.inv.more x, hok, (fun e => by cases e), fun _ => ⟨x, List.mem_append_right _ (by simp), List.mem_append_left _ ?_⟩⟩
      rcases h.inv.at_ x.natAbs h1 with h2 | ⟨_, h3, _⟩
      · exfalso
        have h2' : s.getD x.natAbs 0 = 0 := h2
        omega
      · have h3' : s.getD x.natAbs 0 ∈ row := h3
        rwa [c2] at h3'
    · rw [if_neg c2]
      have hs : s.getD x.natAbs 0 = 0 := (h.inv.fresh h0 h1 hm).resolve_left c2
      refine ⟨h.inv.put x h0 h1, hok, fun e => ?_, fun e => ?_⟩
      · exact fun y hy => ((Tells.put (row := row) (s := s) ⟨h.inv, fun z hz => ⟨(h.ok z hz).1, (h.ok z hz).2, h.yes e z hz⟩⟩ h0 h1 hs).all y hy).2.2
      · obtain ⟨y, q1, q2⟩ := h.no e
        exact ⟨y, List.mem_append_left _ q1, List.mem_append_left _ q2⟩
theorem PInv.fold {n : Nat} : ∀ (l : List Int) (st : List Int × Bool × List Int), PInv n st → (∀ y ∈ l, y ≠ 0 ∧ y.natAbs ≤ n) → PInv n (l.foldl putStep st) := by
  intro l
  induction l with
  | nil => intro st h _; exact h
  | cons x l ih =>
    intro st h hl
    obtain ⟨h0, h1⟩ := hl x List.mem_cons_self
    exact ih _ (h.step h0 h1) (fun y hy => hl y (List.mem_cons_of_mem _ hy))
theorem PInv.start (n : Nat) : PInv n ([], false, List.replicate (n + 1) 0) := ⟨SInv.start n, fun y hy => by simp at hy, fun _ y hy => by simp at hy, fun e => by cases e⟩
theorem PInv.tells {n : Nat} {st : List Int × Bool × List Int} (h : PInv n st) (e : st.2.1 = false) : Tells n st.1 st.2.2 := ⟨h.inv, fun y hy => ⟨(h.ok y hy).1, (h.ok y hy).2, h.yes e y hy⟩⟩
theorem putStep_row (st : List Int × Bool × List Int) (x : Int) : (putStep st x).1 = if st.1.contains x then st.1 else st.1 ++ [x] := by
  unfold putStep
  by_cases c1 : st.1.contains x
  · rw [if_pos c1, if_pos c1]
  · rw [if_neg c1, if_neg c1]
    split <;> rfl
theorem fold_length : ∀ (l : List Int) (st : List Int × Bool × List Int), (l.foldl putStep st).1.length ≤ st.1.length + l.length := by
  intro l
  induction l with
  | nil => intro st; simp
  | cons x l ih =>
    intro st
    have h1 := ih (putStep st x)
    have h2 : (putStep st x).1.length ≤ st.1.length + 1 := by rw [putStep_row]; split <;> simp
    simp only [List.foldl_cons, List.length_cons]
    omega
/-! What the clauses are. -/
def Skip (row c : List Int) : Prop := (leftL row c []).2 = true ∨ 2 ≤ (leftL row c []).1.length
def Dead (row c : List Int) : Prop := (leftL row c []).2 = false ∧ (leftL row c []).1 = []
def UnitC (row c : List Int) (x : Int) : Prop := (leftL row c []).2 = false ∧ (leftL row c []).1 = [x]
theorem open_kind {n : Nat} {row s : List Int} (h : Tells n row s) (c : List Int) (hc : ∀ y ∈ c, y ≠ 0 ∧ y.natAbs ≤ n) :
    ((openL (s.getD · 0) c 0 false).2 = true → Skip row c) ∧ ((openL (s.getD · 0) c 0 false).2 = false → (openL (s.getD · 0) c 0 false).1 = 0 → Dead row c) ∧ ((openL (s.getD · 0) c 0 false).2 = false → (openL (s.getD · 0) c 0 false).1 ≠ 0 → UnitC row c (openL (s.getD · 0) c 0 false).1) := by
  rcases open_left h c [] 0 false hc ⟨fun _ => rfl, fun _ => rfl⟩ (fun _ => .inl rfl) (fun e => by cases e) with ⟨h1, h2⟩ | ⟨h1, h2, h3, h4⟩
  · rw [h2]
    exact ⟨fun _ => .inl h1, (fun e => by cases e), (fun e => by cases e)⟩
  · refine ⟨fun e => .inr (h4 e), fun e1 e2 => ⟨h1, h2.1 e2⟩, fun e1 e2 => ⟨h1, (h3 e1).resolve_left (fun e => e2 (h2.2 e))⟩⟩
theorem scan_none {n : Nat} {row s : List Int} (h : Tells n row s) : ∀ (cls : List (List Int)) (next : Int), (∀ c ∈ cls, ∀ y ∈ c, y ≠ 0 ∧ y.natAbs ≤ n) → scanL (s.getD · 0) cls next = none → ∃ c ∈ cls, Dead row c := by
  intro cls
  induction cls with
  | nil => intro next _ e; simp [scanL] at e
  | cons c cs ih =>
    intro next hc e
    obtain ⟨k1, k2, k3⟩ := open_kind h c (hc c List.mem_cons_self)
    have hc' : ∀ c ∈ cs, ∀ y ∈ c, y ≠ 0 ∧ y.natAbs ≤ n := fun c hcc => hc c (List.mem_cons_of_mem _ hcc)
    have go : ∀ nx, scanL (s.getD · 0) cs nx = none → ∃ c' ∈ c :: cs, Dead row c' := fun nx e => by
      obtain ⟨c', q1, q2⟩ := ih nx hc' e
      exact ⟨c', List.mem_cons_of_mem _ q1, q2⟩
    unfold scanL at e
    by_cases h1 : (openL (s.getD · 0) c 0 false).2 = true
    · rw [if_pos h1] at e; exact go _ e
    · rw [if_neg h1] at e
      by_cases h2 : (openL (s.getD · 0) c 0 false).1 = 0
      · exact ⟨c, List.mem_cons_self, k2 (by simpa using h1) h2⟩
      · rw [if_neg h2] at e
        by_cases h3 : next = 0
        · rw [if_pos h3] at e; exact go _ e
        · rw [if_neg h3] at e; exact go _ e
theorem not_dead_of_skip {row c : List Int} (h : Skip row c) : ¬ Dead row c := by
  rintro ⟨h1, h2⟩
  rcases h with h | h
  · rw [h1] at h; cases h
  · rw [h2] at h; simp at h
theorem not_dead_of_unit {row c : List Int} {x : Int} (h : UnitC row c x) : ¬ Dead row c := by
  rintro ⟨h1, h2⟩
  rw [h.2] at h2
  cases h2
theorem scan_some {n : Nat} {row s : List Int} (h : Tells n row s) : ∀ (cls : List (List Int)) (next r : Int), (∀ c ∈ cls, ∀ y ∈ c, y ≠ 0 ∧ y.natAbs ≤ n) → scanL (s.getD · 0) cls next = some r →
    (∀ c ∈ cls, ¬ Dead row c) ∧ (next ≠ 0 → r = next) ∧ (next = 0 → (r = 0 ∧ ∀ c ∈ cls, Skip row c) ∨ (r ≠ 0 ∧ ∃ t, t < cls.length ∧ (∀ q, q < t → Skip row (cls.getD q [])) ∧ UnitC row (cls.getD t []) r)) := by
  intro cls
  induction cls with
  | nil =>
    intro next r _ e
    simp [scanL] at e
    exact ⟨fun c hc => by simp at hc, fun _ => e.symm, fun h0 => .inl ⟨by rw [← e, h0], fun c hc => by simp at hc⟩⟩
  | cons c cs ih =>
    intro next r hc e
    obtain ⟨k1, k2, k3⟩ := open_kind h c (hc c List.mem_cons_self)
    have hc' : ∀ c ∈ cs, ∀ y ∈ c, y ≠ 0 ∧ y.natAbs ≤ n := fun c hcc => hc c (List.mem_cons_of_mem _ hcc)
    unfold scanL at e
    by_cases h1 : (openL (s.getD · 0) c 0 false).2 = true
    · rw [if_pos h1] at e
      have hsk := k1 h1
      obtain ⟨a1, a2, a3⟩ := ih next r hc' e
      refine ⟨fun c' hc' => ?_, a2, fun h0 => ?_⟩
      · rcases List.mem_cons.1 hc' with rfl | hc'
        · exact not_dead_of_skip hsk
        · exact a1 c' hc'
      · rcases a3 h0 with ⟨b1, b2⟩ | ⟨b1, t, b2, b3, b4⟩
        · left
          refine ⟨b1, fun c' hc' => ?_⟩
          rcases List.mem_cons.1 hc' with rfl | hc'
          · exact hsk
          · exact b2 c' hc'
        · right
          refine ⟨b1, t + 1, by simpa using b2, fun q hq => ?_, by simpa using b4⟩
          cases q with
          | zero => exact hsk
          | succ q => simpa using b3 q (by omega)
    · rw [if_neg h1] at e
      have h1' : (openL (s.getD · 0) c 0 false).2 = false := by simpa using h1
      by_cases h2 : (openL (s.getD · 0) c 0 false).1 = 0
      · rw [if_pos h2] at e; cases e
      · rw [if_neg h2] at e
        have hu := k3 h1' h2
        by_cases h3 : next = 0
        · rw [if_pos h3] at e
          obtain ⟨a1, a2, a3⟩ := ih _ r hc' e
          have hr := a2 h2
          refine ⟨fun c' hc' => ?_, fun hh => absurd h3 hh, fun _ => .inr ⟨by rw [hr]; exact h2, 0, by simp, fun q hq => absurd hq (Nat.not_lt_zero _), by rw [hr]; exact hu⟩⟩
          rcases List.mem_cons.1 hc' with rfl | hc'
          · exact not_dead_of_unit hu
          · exact a1 c' hc'
        · rw [if_neg h3] at e
          obtain ⟨a1, a2, a3⟩ := ih next r hc' e
          refine ⟨fun c' hc' => ?_, a2, fun h0 => absurd h0 h3⟩
          rcases List.mem_cons.1 hc' with rfl | hc'
          · exact not_dead_of_unit hu
          · exact a1 c' hc'
/-! The reference's loops. -/
theorem clash_l1 (n : Int) (row : List Int) (cls : List (List Int)) (hl : cls.length ≤ 1000000000) (hr : row.length ≤ 1000000000) (hc : ∀ c ∈ cls, c.length ≤ 1000000000 ∧ ∀ y ∈ c, -100000 ≤ y ∧ y ≤ 100000) (R : Bool) :
    ∀ (d i : Nat), i + d = cls.length → (∀ q, q < i → ¬ Dead row (cls.getD q [])) → ((∀ c ∈ cls, ¬ Dead row c) → R = false) → ((∃ c ∈ cls, Dead row c) → R = true) → Ev (fun k => tithebarnref16_clash.l1 k row i n cls) R := by
  intro d
  induction d with
  | zero =>
    intro i hi hq hF hT
    have : R = false := hF (fun c hcc => by
      obtain ⟨q, hq', rfl⟩ := List.getElem_of_mem hcc
      have := hq q (by omega)
      rwa [List.getD_eq_getElem?_getD, List.getElem?_eq_getElem hq'] at this)
    rw [this]
    refine Ev.step (f := fun _ => some false) (fun k => ?_) (Ev.now _)
    simp only [tithebarnref16_clash.l1]
    rw [if_neg (by omega)]
  | succ d ih =>
    intro i hi hq hF hT
    obtain ⟨q1, q2⟩ := hc (cls.getD i []) (getD_in [] (by omega))
    have hstep : ∀ k, tithebarnref16_clash.l1 (k + 1) row i n cls = (tithebarnref16_left.f k (cls.getD i []) row).bind fun bt203 => (if bt203.2 = true then (tithebarnref16_clash.l1 k row ((i + 1 : Nat) : Int) n cls) else (if (bt203.1.length : Int) = 0 then (some true) else (tithebarnref16_clash.l1 k row ((i + 1 : Nat) : Int) n cls))) := by
      intro k
      simp only [tithebarnref16_clash.l1]
      rw [if_pos (by omega), if_pos (by omega), rdL_nat, wrap_id (by omega) (by omega)]
      rfl
    refine Ev.step hstep (Ev.bind (left_ev _ row q1 hr q2) ?_)
    by_cases h1 : (leftL row (cls.getD i []) []).2 = true
    · refine Ev.ite_pos h1 (ih (i + 1) (by omega) (fun q hq' => ?_) hF hT)
      by_cases e : q = i
      · rw [e]; exact not_dead_of_skip (.inl h1)
      · exact hq q (by omega)
    · refine Ev.ite_neg h1 ?_
      by_cases h2 : (leftL row (cls.getD i []) []).1 = []
      · have : R = true := hT ⟨_, getD_in [] (by omega), by simpa using h1, h2⟩
        rw [this]
        exact Ev.ite_pos (by rw [h2]; rfl) (Ev.now _)
      · have h3 : 0 < (leftL row (cls.getD i []) []).1.length := List.length_pos_iff.2 h2
        refine Ev.ite_neg (by omega) (ih (i + 1) (by omega) (fun q hq' => ?_) hF hT)
        by_cases e : q = i
        · rw [e]; exact fun hd => h2 hd.2
        · exact hq q (by omega)
theorem clash_l0_no (n : Int) (row : List Int) (cls : List (List Int)) (hr : row.length ≤ 1000000000) (hb : ∀ y ∈ row, -100000 ≤ y ∧ y ≤ 100000 ∧ -y ∉ row) (R : Bool) (hn : Ev (fun k => tithebarnref16_clash.l1 k row ((0 : Nat) : Int) n cls) R) :
    ∀ (d i : Nat), i + d = row.length → Ev (fun k => tithebarnref16_clash.l0 k row i n cls) R := by
  intro d
  induction d with
  | zero =>
    intro i hi
    refine Ev.step (fun k => ?_) hn
    simp only [tithebarnref16_clash.l0]
    rw [if_neg (by omega)]
    rfl
  | succ d ih =>
    intro i hi
    obtain ⟨b1, b2, b3⟩ := hb (row.getD i 0) (getD_in 0 (by omega))
    have hstep : ∀ k, tithebarnref16_clash.l0 (k + 1) row i n cls = (tithebarnref16_Has.f k row (-(row.getD i 0))).bind fun t201 => (if t201 = true then (some true) else (tithebarnref16_clash.l0 k row ((i + 1 : Nat) : Int) n cls)) := by
      intro k
      simp only [tithebarnref16_clash.l0]
      rw [if_pos (by omega), if_pos (by omega), rd_nat, wrap_id (by omega) (by omega), wrap_id (by omega) (by omega)]
      rfl
    refine Ev.step hstep (Ev.bind (has_ev row _ hr) ?_)
    have : row.contains (-(row.getD i 0)) = false := by simpa using b3
    rw [this]
    exact Ev.ite_neg (by simp) (ih (i + 1) (by omega))
theorem clash_l0_yes (n : Int) (row : List Int) (cls : List (List Int)) (hr : row.length ≤ 1000000000) (hb : ∀ y ∈ row, -100000 ≤ y ∧ y ≤ 100000) (he : ∃ y ∈ row, -y ∈ row) :
    ∀ (d i : Nat), i + d = row.length → (∀ q, q < i → -(row.getD q 0) ∉ row) → Ev (fun k => tithebarnref16_clash.l0 k row i n cls) true := by
  intro d
  induction d with
  | zero =>
    intro i hi hq
    obtain ⟨y, h1, h2⟩ := he
    obtain ⟨q, hq', rfl⟩ := List.getElem_of_mem h1
    exact absurd h2 (by have := hq q (by omega); rwa [List.getD_eq_getElem?_getD, List.getElem?_eq_getElem hq'] at this)
  | succ d ih =>
    intro i hi hq
    obtain ⟨b1, b2⟩ := hb (row.getD i 0) (getD_in 0 (by omega))
    have hstep : ∀ k, tithebarnref16_clash.l0 (k + 1) row i n cls = (tithebarnref16_Has.f k row (-(row.getD i 0))).bind fun t201 => (if t201 = true then (some true) else (tithebarnref16_clash.l0 k row ((i + 1 : Nat) : Int) n cls)) := by
      intro k
      simp only [tithebarnref16_clash.l0]
      rw [if_pos (by omega), if_pos (by omega), rd_nat, wrap_id (by omega) (by omega), wrap_id (by omega) (by omega)]
      rfl
    refine Ev.step hstep (Ev.bind (has_ev row _ hr) ?_)
    by_cases e : -(row.getD i 0) ∈ row
    · have : row.contains (-(row.getD i 0)) = true := by simpa using e
      rw [this]
      exact Ev.ite_pos rfl (Ev.now _)
    · have : row.contains (-(row.getD i 0)) = false := by simpa using e
      rw [this]
      exact Ev.ite_neg (by simp) (ih (i + 1) (by omega) (fun q hq' => by
        by_cases e' : q = i
        · rw [e']; exact e
        · exact hq q (by omega)))
theorem l2_step (n : Int) (row : List Int) (cls : List (List Int)) (hl : cls.length ≤ 1000000000) (i : Nat) (hi : i < cls.length) (k : Nat) : tithebarnref16_Unit.l2 (k + 1) row i n cls = (tithebarnref16_left.f k (cls.getD i []) row).bind fun bt219 => (if bt219.2 = true then (tithebarnref16_Unit.l2 k row ((i + 1 : Nat) : Int) n cls) else (if (bt219.1.length : Int) = 1 then (if 0 < (bt219.1.length : Int) then (if row.length < 17592186044416 then (tithebarnref16_Unit.l1 k (row ++ [rd bt219.1 0]) n cls) else (none)) else (none)) else (tithebarnref16_Unit.l2 k row ((i + 1 : Nat) : Int) n cls))) := by
  simp only [tithebarnref16_Unit.l2]
  rw [if_pos (by omega), if_pos (by omega), rdL_nat, wrap_id (by omega) (by omega)]
  have e : ¬ ((i : Int) = (cls.length : Int)) := by omega
  simp only [if_neg e, Option.bind_some]
  rfl
theorem unit_l2_none (n : Int) (row : List Int) (cls : List (List Int)) (hl : cls.length ≤ 1000000000) (hr : row.length ≤ 1000000000) (hc : ∀ c ∈ cls, c.length ≤ 1000000000 ∧ ∀ y ∈ c, -100000 ≤ y ∧ y ≤ 100000) (hs : ∀ c ∈ cls, Skip row c) :
    ∀ (d i : Nat), i + d = cls.length → Ev (fun k => tithebarnref16_Unit.l2 k row i n cls) (row, false) := by
  intro d
  induction d with
  | zero =>
    intro i hi
    refine Ev.step (f := fun _ => some (row, false)) (fun k => ?_) (Ev.now _)
    simp only [tithebarnref16_Unit.l2]
    rw [if_neg (by omega), if_pos (by omega)]
  | succ d ih =>
    intro i hi
    have hm : cls.getD i [] ∈ cls := getD_in [] (by omega)
    obtain ⟨q1, q2⟩ := hc _ hm
    refine Ev.step (l2_step n row cls hl i (by omega)) (Ev.bind (left_ev _ row q1 hr q2) ?_)
    rcases hs _ hm with h | h
    · exact Ev.ite_pos h (ih (i + 1) (by omega))
    · by_cases h1 : (leftL row (cls.getD i []) []).2 = true
      · exact Ev.ite_pos h1 (ih (i + 1) (by omega))
      · exact Ev.ite_neg h1 (Ev.ite_neg (by omega) (ih (i + 1) (by omega)))
theorem unit_l2_some (n : Int) (row : List Int) (cls : List (List Int)) (hl : cls.length ≤ 1000000000) (hr : row.length ≤ 1000000000) (hc : ∀ c ∈ cls, c.length ≤ 1000000000 ∧ ∀ y ∈ c, -100000 ≤ y ∧ y ≤ 100000) (t : Nat) (x : Int) (ht : t < cls.length) (hs : ∀ q, q < t → Skip row (cls.getD q [])) (hu : UnitC row (cls.getD t []) x) (R : List Int × Bool) (hn : Ev (fun k => tithebarnref16_Unit.l1 k (row ++ [x]) n cls) R) :
    ∀ (d i : Nat), i + d = t → Ev (fun k => tithebarnref16_Unit.l2 k row i n cls) R := by
  intro d
  induction d with
  | zero =>
    intro i hi
    have : i = t := by omega
    subst this
    obtain ⟨q1, q2⟩ := hc _ (getD_in [] ht)
    refine Ev.step (l2_step n row cls hl i ht) (Ev.bind (left_ev _ row q1 hr q2) (Ev.ite_neg (by rw [hu.1]; simp) ?_))
    rw [hu.2]
    exact Ev.ite_pos (by simp) (Ev.ite_pos (by simp) (Ev.ite_pos (by omega) hn))
  | succ d ih =>
    intro i hi
    obtain ⟨q1, q2⟩ := hc _ (getD_in (l := cls) (i := i) [] (by omega))
    refine Ev.step (l2_step n row cls hl i (by omega)) (Ev.bind (left_ev _ row q1 hr q2) ?_)
    rcases hs i (by omega) with h | h
    · exact Ev.ite_pos h (ih (i + 1) (by omega))
    · by_cases h1 : (leftL row (cls.getD i []) []).2 = true
      · exact Ev.ite_pos h1 (ih (i + 1) (by omega))
      · exact Ev.ite_neg h1 (Ev.ite_neg (by omega) (ih (i + 1) (by omega)))
theorem unit_l1 (n : Nat) (hn : n ≤ 100000) (cls : List (List Int)) (hl : cls.length ≤ 1000000000) (hc : ∀ c ∈ cls, c.length ≤ 1000000000 ∧ ∀ y ∈ c, y ≠ 0 ∧ y.natAbs ≤ n) :
    ∀ (z : Nat) (row s : List Int), zeros s = z → Tells n row s → row.length + z ≤ 1000000 → Ev (fun k => tithebarnref16_Unit.l1 k row n cls) (unitsL cls (z + 1) row s) := by
  have hc1 : ∀ c ∈ cls, c.length ≤ 1000000000 ∧ ∀ y ∈ c, -100000 ≤ y ∧ y ≤ 100000 := fun c hcc => ⟨(hc c hcc).1, fun y hy => by have := (hc c hcc).2 y hy; omega⟩
  have hc2 : ∀ c ∈ cls, ∀ y ∈ c, y ≠ 0 ∧ y.natAbs ≤ n := fun c hcc => (hc c hcc).2
  intro z
  induction z using Nat.strongRecOn with
  | _ z ih =>
    intro row s hz hT hlen
    have hcon : ∀ y ∈ row, -100000 ≤ y ∧ y ≤ 100000 ∧ -y ∉ row := fun y hy => by
      obtain ⟨a, b, c⟩ := hT.all y hy
      refine ⟨by omega, by omega, fun h => ?_⟩
      have := (hT.opp a b).2 h
      omega
    cases hsc : scanL (s.getD · 0) cls 0 with
    | none =>
      obtain ⟨c, h1, h2⟩ := scan_none hT cls 0 hc2 hsc
      have e : unitsL cls (z + 1) row s = (row, true) := by simp only [unitsL]; rw [hsc]
      rw [e]
      refine Ev.step (f := fun k => (tithebarnref16_clash.f k n cls row).bind fun t217 => (if t217 = true then (some (row, true)) else (tithebarnref16_Unit.l2 k row 0 n cls))) (fun k => by simp only [tithebarnref16_Unit.l1]) ?_
      refine Ev.bind (a := true) (clash_l0_no n row cls (by omega) hcon true (clash_l1 n row cls hl (by omega) hc1 true cls.length 0 (by omega) (fun q hq => absurd hq (Nat.not_lt_zero _)) (fun h => absurd h2 (h c h1)) (fun _ => rfl)) row.length 0 (by omega)) (Ev.ite_pos rfl (Ev.now _))
    | some r =>
      obtain ⟨a1, _, a3⟩ := scan_some hT cls 0 r hc2 hsc
      refine Ev.step (f := fun k => (tithebarnref16_clash.f k n cls row).bind fun t217 => (if t217 = true then (some (row, true)) else (tithebarnref16_Unit.l2 k row 0 n cls))) (fun k => by simp only [tithebarnref16_Unit.l1]) ?_
      refine Ev.bind (a := false) (clash_l0_no n row cls (by omega) hcon false (clash_l1 n row cls hl (by omega) hc1 false cls.length 0 (by omega) (fun q hq => absurd hq (Nat.not_lt_zero _)) (fun _ => rfl) (fun ⟨c, h1, h2⟩ => absurd h2 (a1 c h1))) row.length 0 (by omega)) (Ev.ite_neg (by simp) ?_)
      rcases a3 rfl with ⟨b1, b2⟩ | ⟨b1, t, b2, b3, b4⟩
      · have e : unitsL cls (z + 1) row s = (row, false) := by simp only [unitsL]; rw [hsc]; simp [b1]
        rw [e]
        exact unit_l2_none n row cls hl (by omega) hc1 b2 cls.length 0 (by omega)
      · obtain ⟨c, hcc, hin, hs1, hs2⟩ := (scanL_next _ _ _ _ hsc b1).resolve_left b1
        obtain ⟨r0, r1⟩ := hc2 c hcc r hin
        have hs0 : s.getD r.natAbs 0 = 0 := by
          rcases hT.inv.at_ r.natAbs r1 with h | ⟨h, _, _⟩
          · exact h
          · exfalso
            have h1 : s.getD r.natAbs 0 ≠ r := hs1
            have h2 : s.getD r.natAbs 0 ≠ -r := hs2
            omega
        have hzs := zeros_set (s := s) (j := r.natAbs) (x := r) (by have := hT.inv.len; omega) hs0 r0
        have e : unitsL cls (z + 1) row s = unitsL cls (zeros (s.set r.natAbs r) + 1) (row ++ [r]) (s.set r.natAbs r) := by
          rw [show unitsL cls (z + 1) row s = (match scanL (s.getD · 0) cls 0 with | none => (row, true) | some x => if x = 0 then (row, false) else unitsL cls z (row ++ [x]) (s.set x.natAbs x)) from rfl, hsc]
          simp only [if_neg b1]
          rw [hzs, hz]
        rw [e]
        exact unit_l2_some n row cls hl (by omega) hc1 t r b2 b3 b4 _ (ih _ (by omega) (row ++ [r]) (s.set r.natAbs r) rfl (hT.put r0 r1 hs0) (by simp; omega)) t 0 (by omega)
theorem unit_l0 (n : Nat) (hn : n ≤ 100000) (cls : List (List Int)) (hl : cls.length ≤ 1000000000) (lits : List Int) (hll : lits.length ≤ 100000) (R : List Int × Bool)
    (hbad : allB lits n = false → R = ([], true)) (hgood : allB lits n = true → Ev (fun k => tithebarnref16_Unit.l1 k (lits.foldl putStep ([], false, List.replicate (n + 1) 0)).1 n cls) R) :
    ∀ (d i : Nat), i + d = lits.length → (∀ q, q < i → litB (lits.getD q 0) n = true) → Ev (fun k => tithebarnref16_Unit.l0 k lits ((lits.take i).foldl putStep ([], false, List.replicate (n + 1) 0)).1 i n cls) R := by
  intro d
  induction d with
  | zero =>
    intro i hi hq
    have ha : allB lits n = true := all_getD 0 (fun q hq' => hq q (by omega))
    have e : lits.take i = lits := List.take_of_length_le (by omega)
    rw [e]
    refine Ev.step (fun k => ?_) (hgood ha)
    simp only [tithebarnref16_Unit.l0]
    rw [if_neg (by omega)]
  | succ d ih =>
    intro i hi hq
    have hfl := fold_length (lits.take i) ([], false, List.replicate (n + 1) 0)
    have hsn := foldl_snoc putStep ([], false, List.replicate (n + 1) 0) lits i (by omega)
    rw [show lits[i]'(by omega) = lits.getD i 0 by simp [show i < lits.length by omega]] at hsn
    have hrow : ((lits.take (i + 1)).foldl putStep ([], false, List.replicate (n + 1) 0)).1 = if ((lits.take i).foldl putStep ([], false, List.replicate (n + 1) 0)).1.contains (lits.getD i 0) then ((lits.take i).foldl putStep ([], false, List.replicate (n + 1) 0)).1 else ((lits.take i).foldl putStep ([], false, List.replicate (n + 1) 0)).1 ++ [lits.getD i 0] := by
      rw [hsn, putStep_row]
    have ih' := ih (i + 1) (by omega)
    rw [hrow] at ih'
    simp only [List.length_nil, List.length_take] at hfl
    generalize ((lits.take i).foldl putStep ([], false, List.replicate (n + 1) 0)).1 = row at *
    cases hb : litB (lits.getD i 0) n with
    | false =>
      have hf : allB lits n = false := by
        unfold allB
        rw [List.all_eq_false]
        exact ⟨lits.getD i 0, getD_in 0 (by omega), by rw [hb]; simp⟩
      rw [hbad hf]
      refine Ev.step (f := fun _ => some ([], true)) (fun k => ?_) (Ev.now _)
      simp only [tithebarnref16_Unit.l0]
      rw [if_pos (by omega), if_pos (by omega), rd_nat, lit_f, hb, Option.bind_some, if_neg (by simp)]
    | true =>
      have ih2 := ih' (fun q hq' => by
        by_cases e : q = i
        · rw [e]; exact hb
        · exact hq q (by omega))
      have hstep : ∀ k, tithebarnref16_Unit.l0 (k + 1) lits row i n cls = (tithebarnref16_Has.f k row (lits.getD i 0)).bind fun t212 => (if t212 = true then (tithebarnref16_Unit.l0 k lits row ((i + 1 : Nat) : Int) n cls) else (if row.length < 17592186044416 then (tithebarnref16_Unit.l0 k lits (row ++ [lits.getD i 0]) ((i + 1 : Nat) : Int) n cls) else (none))) := by
        intro k
        simp only [tithebarnref16_Unit.l0]
        rw [if_pos (by omega), if_pos (by omega), rd_nat, lit_f, hb, Option.bind_some, if_pos rfl, wrap_id (by omega) (by omega)]
        rfl
      refine Ev.step hstep (Ev.bind (has_ev row _ (by omega)) ?_)
      cases hcn : row.contains (lits.getD i 0) with
      | true => rw [hcn] at ih2; exact Ev.ite_pos rfl ih2
      | false => rw [hcn] at ih2; exact Ev.ite_neg (by simp) (Ev.ite_pos (by omega) ih2)
theorem unitB_eq {n : Int} {l : List (List Int)} {lits : List Int} (hz : checkZ n l = 0) (ha : allB lits n = true) : unitB n l lits = unitL n.toNat l lits := by
  unfold unitB
  rw [if_pos ⟨hz, ha⟩]
theorem allB_ok {n : Nat} {lits : List Int} (hn : n ≤ 100000) (ha : allB lits n = true) : ∀ y ∈ lits, y ≠ 0 ∧ y.natAbs ≤ n := fun y hy => by
  unfold allB at ha
  rw [List.all_eq_true] at ha
  obtain ⟨a, b, c, d⟩ := litB_bounds (ha y hy) (by omega) (by omega)
  exact ⟨a, by omega⟩
theorem refUnit_ev (n : Int) (l : List (List Int)) (lits : List Int) (hl : l.length ≤ 1000000000) (ht : total l ≤ 1000000000) (hll : lits.length ≤ 100000) : Ev (fun k => tithebarnref16_Unit.f k n l lits) (unitB n l lits) := by
  refine Ev.bind (refCheck_ev n l hl ht) ?_
  by_cases hz : checkZ n l = 0
  · refine Ev.ite_pos hz ?_
    obtain ⟨h0, h1, h2, hcl⟩ := checkZ_zero hz
    have hok := lits_ok hz
    obtain ⟨n', rfl⟩ := Int.eq_ofNat_of_zero_le h0
    have := unit_l0 n' (by omega) l hl lits hll (unitB n' l lits) (fun h => by unfold unitB; rw [if_neg (by rw [h]; simp)]) (fun ha => ?_) lits.length 0 (by omega) (fun q hq => absurd hq (Nat.not_lt_zero _))
    · simpa using this
    · rw [unitB_eq hz ha, Int.toNat_natCast]
      have hP := PInv.fold lits _ (PInv.start n') (allB_ok (by omega) ha)
      have hfl := fold_length lits ([], false, List.replicate (n' + 1) 0)
      simp only [List.length_nil] at hfl
      unfold unitL
      generalize lits.foldl putStep ([], false, List.replicate (n' + 1) 0) = st at *
      cases hcl : st.2.1 with
      | true =>
        simp only [hcl, if_true]
        have hb : ∀ y ∈ st.1, -100000 ≤ y ∧ y ≤ 100000 := fun y hy => by have := hP.ok y hy; omega
        refine Ev.step (f := fun k => (tithebarnref16_clash.f k n' l st.1).bind fun t217 => (if t217 = true then (some (st.1, true)) else (tithebarnref16_Unit.l2 k st.1 0 n' l))) (fun k => by simp only [tithebarnref16_Unit.l1]) ?_
        exact Ev.bind (a := true) (clash_l0_yes n' st.1 l (by omega) hb (hP.no hcl) st.1.length 0 (by omega) (fun q hq => absurd hq (Nat.not_lt_zero _))) (Ev.ite_pos rfl (Ev.now _))
      | false =>
        have hzl := zeros_le st.2.2
        have hsl := hP.inv.len
        have := unit_l1 n' (by omega) l hl (fun c hcc => ⟨by obtain ⟨q, hq, rfl⟩ := List.getElem_of_mem hcc; have := total_get l q hq; rw [List.getD_eq_getElem?_getD, List.getElem?_eq_getElem hq] at this; simp at this; omega, fun y hy => ⟨(hok c hcc y hy).1, by have := (hok c hcc y hy).2.2.2; omega⟩⟩) (zeros st.2.2) st.1 st.2.2 rfl (hP.tells hcl) (by omega)
        simp only [hcl, Bool.false_eq_true, if_false]
        exact this
  · refine Ev.ite_neg hz ?_
    have e : unitB n l lits = ([], true) := by unfold unitB; rw [if_neg (fun h => hz h.1)]
    rw [e]
    exact Ev.now _
end Go.Proofs.YtghecdmcghppnaaDoor
