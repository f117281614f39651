/- The plain side of the cnf laws: what the printed loops of the kit and of the reference come to. -/
import Derived.Test.YtjghhdgebmoohaaPCnfx1
import Derived.Test.YtjghhdgebmoohaaPCnfx3
import Derived.Test.YtjghhdgebmoohaaPCnfx4
namespace Go.Proofs.Ytjghhdgebmoohaa
open Go.RowKit Go.Proofs.YtjghhdgebmoohaaW.PrintWords Go.Proofs.YtjghhdgebmoohaaW.PrintLast Go.Proofs.YtjghhdgebmoohaaW.PrintMore PCnf
set_option linter.unusedVariables false
set_option linter.unusedSimpArgs false
theorem wrap_id {x : Int} (h1 : -9223372036854775808 ≤ x) (h2 : x ≤ 9223372036854775807) : wrap64 x = x := by unfold wrap64; omega
theorem Ev.ite_pos {α : Type} {c : Prop} [Decidable c] {f g : Nat → Option α} {r : α} (h : c) (k : Ev f r) : Ev (fun n => if c then f n else g n) r := Ev.congr (fun n => if_pos h) k
theorem Ev.ite_neg {α : Type} {c : Prop} [Decidable c] {f g : Nat → Option α} {r : α} (h : ¬c) (k : Ev g r) : Ev (fun n => if c then f n else g n) r := Ev.congr (fun n => if_neg h) k
theorem Ev.some_bind {α β : Type} {a : α} {f : Nat → α → Option β} {r : β} (k : Ev (fun n => f n a) r) : Ev (fun n => (some a).bind (f n)) r := Ev.congr (fun n => rfl) k
theorem Ev.const {α : Type} {o : Option α} {r : α} (h : o = some r) : Ev (fun _ => o) r := ⟨0, fun _ _ => h⟩
theorem Ev.obind {α β : Type} {o : Option α} {a : α} {f : Nat → α → Option β} {r : β} (h : o = some a) (k : Ev (fun n => f n a) r) : Ev (fun n => o.bind (f n)) r := by
  subst h; exact Ev.some_bind k
theorem rd_nat (xs : List Int) (i : Nat) : rd xs (i : Int) = xs.getD i 0 := rfl
theorem rdL_nat (xs : List (List Int)) (i : Nat) : rd_L1 xs (i : Int) = xs.getD i [] := rfl
theorem getD_in {α : Type} {l : List α} {i : Nat} (d : α) (h : i < l.length) : l.getD i d ∈ l := by
  rw [List.getD_eq_getElem?_getD, List.getElem?_eq_getElem h]
  exact List.getElem_mem h
theorem all_getD {α : Type} {l : List α} {p : α → Bool} (d : α) (h : ∀ q, q < l.length → p (l.getD q d) = true) : l.all p = true := by
  rw [List.all_eq_true]
  intro x hx
  obtain ⟨q, hq, rfl⟩ := List.getElem_of_mem hx
  have := h q hq
  rwa [List.getD_eq_getElem?_getD, List.getElem?_eq_getElem hq] at this
/-- Few: where it says yes, the bounds hold. -/
theorem few_l0 (l : List (List Int)) (top : Int) (h0 : 0 ≤ top) (ht : top ≤ 100000) (hl : l.length ≤ 100000) : ∀ (d i : Nat), i + d = l.length → (total (l.take i) : Int) ≤ top →
    ∃ b, Ev (fun k => tithebarnkit_Few.l0 k l top (total (l.take i)) i) b ∧ (b = true → (total l : Int) ≤ top) := by
  intro d
  induction d with
  | zero =>
    intro i hi hb
    refine ⟨true, Ev.step (f := fun _ => some true) (fun k => ?_) (Ev.now _), fun _ => ?_⟩
    · simp only [tithebarnkit_Few.l0]
      rw [if_neg (by omega)]
    · have : l.take i = l := List.take_of_length_le (by omega)
      rwa [this] at hb
  | succ d ih =>
    intro i hi hb
    have hs := total_snoc l i (by omega)
    have hw : wrap64 (top - (total (l.take i) : Int)) = top - total (l.take i) := wrap_id (by omega) (by omega)
    by_cases hc : ((l.getD i []).length : Int) > top - total (l.take i)
    · refine ⟨false, Ev.step (f := fun _ => some false) (fun k => ?_) (Ev.now _), fun h => by cases h⟩
      simp only [tithebarnkit_Few.l0]
      rw [if_pos (by omega), if_pos (by omega), rdL_nat, hw, if_pos hc]
    · obtain ⟨b, h1, h2⟩ := ih (i + 1) (by omega) (by omega)
      refine ⟨b, Ev.step (fun k => ?_) h1, h2⟩
      simp only [tithebarnkit_Few.l0]
      rw [if_pos (by omega), if_pos (by omega), rdL_nat, hw, if_neg hc, wrap_id (by omega) (by omega), wrap_id (by omega) (by omega)]
      rw [show ((total (l.take i) : Int) + ((l.getD i []).length : Int)) = ((total (l.take (i + 1)) : Nat) : Int) by omega, show ((i : Int) + 1) = ((i + 1 : Nat) : Int) by omega]
theorem few_ev (v : Int) (l : List (List Int)) (top : Int) (h0 : 0 ≤ top) (ht : top ≤ 100000) :
    ∃ b, Ev (fun k => tithebarnkit_Few.f k v l top) b ∧ (b = true → v ≤ top ∧ (l.length : Int) ≤ top ∧ (total l : Int) ≤ top) := by
  by_cases h1 : v > top
  · refine ⟨false, Ev.congr (f := fun k => tithebarnkit_Few.j0 k l top true) (fun k => by unfold tithebarnkit_Few.f; rw [if_pos h1]) (Ev.step (f := fun _ => some false) (fun k => by simp only [tithebarnkit_Few.j0]; simp) (Ev.now _)), fun h => by cases h⟩
  · by_cases h2 : (l.length : Int) > top
    · refine ⟨false, Ev.congr (f := fun k => tithebarnkit_Few.j0 k l top true) (fun k => by unfold tithebarnkit_Few.f; rw [if_neg h1, decide_eq_true h2]) (Ev.step (f := fun _ => some false) (fun k => by simp only [tithebarnkit_Few.j0]; simp) (Ev.now _)), fun h => by cases h⟩
    · obtain ⟨b, e1, e2⟩ := few_l0 l top h0 ht (by omega) l.length 0 (by omega) (by simpa [total] using h0)
      refine ⟨b, Ev.congr (f := fun k => tithebarnkit_Few.j0 k l top false) (fun k => by unfold tithebarnkit_Few.f; rw [if_neg h1, decide_eq_false h2]) (Ev.step (f := fun k => tithebarnkit_Few.l0 k l top 0 0) (fun k => by simp only [tithebarnkit_Few.j0]; rw [if_neg (by simp)]) (by simpa [total] using e1)), fun h => ⟨by omega, by omega, e2 h⟩⟩
theorem lit_f (x n : Int) : tithebarnref16_lit.f x n = some (litB x n) := by
  unfold tithebarnref16_lit.f litB
  by_cases h1 : x = 0
  · rw [if_pos h1]; simp [h1]
  · rw [if_neg h1]
    by_cases h2 : x ≥ wrap64 (-n)
    · rw [if_pos h2]; simp [h1, h2]
    · rw [if_neg h2]; simp [h1, h2]
theorem refCount_l0 (a : Int) (l : List (List Int)) (hl : l.length ≤ 1000000000) (ht : total l ≤ 1000000000) : ∀ (d i : Nat), i + d = l.length → Ev (fun k => tithebarnref16_Count.l0 k (total (l.take i)) i a l) (total l : Int) := by
  intro d
  induction d with
  | zero =>
    intro i hi
    refine Ev.step (f := fun _ => some (total l : Int)) (fun k => ?_) (Ev.now _)
    simp only [tithebarnref16_Count.l0]
    rw [if_neg (by omega), List.take_of_length_le (by omega)]
  | succ d ih =>
    intro i hi
    have hs := total_snoc l i (by omega)
    have h3 := total_take_le l (i + 1)
    refine Ev.step (fun k => ?_) (ih (i + 1) (by omega))
    simp only [tithebarnref16_Count.l0]
    rw [if_pos (by omega), if_pos (by omega), rdL_nat, wrap_id (by omega) (by omega), wrap_id (by omega) (by omega)]
    rw [show ((total (l.take i) : Int) + ((l.getD i []).length : Int)) = ((total (l.take (i + 1)) : Nat) : Int) by omega, show ((i : Int) + 1) = ((i + 1 : Nat) : Int) by omega]
theorem refCount_ev (a : Int) (l : List (List Int)) (hl : l.length ≤ 1000000000) (ht : total l ≤ 1000000000) : Ev (fun k => tithebarnref16_Count.f k a l) (total l : Int) := by
  have := refCount_l0 a l hl ht l.length 0 (by omega)
  simpa [total, tithebarnref16_Count.f] using this
theorem cnfCount_l0 (l : List (List Int)) (hl : l.length ≤ 1000000000) (ht : total l ≤ 1000000000) : ∀ (d i : Nat), i + d = l.length → Ev (fun k => cnf_Count.l0 k (total (l.take i)) l (l.length : Int) i) (total l : Int) := by
  intro d
  induction d with
  | zero =>
    intro i hi
    refine Ev.step (f := fun _ => some (total l : Int)) (fun k => ?_) (Ev.now _)
    simp only [cnf_Count.l0]
    rw [if_neg (by omega), List.take_of_length_le (by omega)]
  | succ d ih =>
    intro i hi
    have hs := total_snoc l i (by omega)
    have h3 := total_take_le l (i + 1)
    refine Ev.step (fun k => ?_) (ih (i + 1) (by omega))
    simp only [cnf_Count.l0]
    repeat rw [if_pos (by omega)]
    rw [rdL_nat, wrap_id (by omega) (by omega), wrap_id (by omega) (by omega)]
    rw [show ((total (l.take i) : Int) + ((l.getD i []).length : Int)) = ((total (l.take (i + 1)) : Nat) : Int) by omega, show ((i : Int) + 1) = ((i + 1 : Nat) : Int) by omega]
theorem cnfCount_ev (a : Int) (l : List (List Int)) (hl : l.length ≤ 1000000000) (ht : total l ≤ 1000000000) : Ev (fun k => cnf_Count.f k a l) (total l : Int) := by
  have := cnfCount_l0 l hl ht l.length 0 (by omega)
  simpa [total, cnf_Count.f] using this
/-! The reference's Check. -/
theorem refCheck_l1 (n : Int) (l : List (List Int)) (hl : l.length ≤ 1000000000) (ht : total l ≤ 1000000000) (R : Int) (i : Nat) (hi : i < l.length) (hnext : (allB (l.getD i []) n = true → Ev (fun k => tithebarnref16_Check.l0 k ((i + 1 : Nat) : Int) n l) R)) (hR : allB (l.getD i []) n = false → R = 2) :
    ∀ (d j : Nat), j + d = (l.getD i []).length → (∀ q, q < j → litB ((l.getD i []).getD q 0) n = true) → Ev (fun k => tithebarnref16_Check.l1 k i j n l) R := by
  have hlen : (l.getD i []).length ≤ 1000000000 := by
    have := total_snoc l i hi
    have := total_take_le l (i + 1)
    omega
  intro d
  induction d with
  | zero =>
    intro j hj hq
    refine Ev.step (fun k => ?_) (hnext ?_)
    · simp only [tithebarnref16_Check.l1]
      rw [if_pos (by omega), if_pos (by omega), rdL_nat, if_neg (by omega), wrap_id (by omega) (by omega)]
      rfl
    · exact all_getD 0 (fun q hq' => hq q (by omega))
  | succ d ih =>
    intro j hj hq
    cases hb : litB ((l.getD i []).getD j 0) n with
    | true =>
      refine Ev.step (fun k => ?_) (ih (j + 1) (by omega) (fun q hq' => by
        by_cases e : q = j
        · rw [e]; exact hb
        · exact hq q (by omega)))
      simp only [tithebarnref16_Check.l1]
      rw [if_pos (by omega), if_pos (by omega), rdL_nat, if_pos (by omega), if_pos (by omega), rd_nat, lit_f, hb, Option.bind_some, if_pos rfl, wrap_id (by omega) (by omega)]
      rfl
    | false =>
      have hf : allB (l.getD i []) n = false := by
        unfold allB
        rw [List.all_eq_false]
        exact ⟨(l.getD i []).getD j 0, getD_in 0 (by omega), by rw [hb]; simp⟩
      rw [hR hf]
      refine Ev.step (f := fun _ => some 2) (fun k => ?_) (Ev.now _)
      simp only [tithebarnref16_Check.l1]
      rw [if_pos (by omega), if_pos (by omega), rdL_nat, if_pos (by omega), if_pos (by omega), rd_nat, lit_f, hb, Option.bind_some, if_neg (by simp)]
theorem refCheck_l0 (n : Int) (l : List (List Int)) (hl : l.length ≤ 1000000000) (ht : total l ≤ 1000000000) : ∀ (d i : Nat), i + d = l.length → (∀ q, q < i → allB (l.getD q []) n = true) →
    Ev (fun k => tithebarnref16_Check.l0 k i n l) (if l.all (fun c => allB c n) then (0 : Int) else 2) := by
  intro d
  induction d with
  | zero =>
    intro i hi hq
    have : l.all (fun c => allB c n) = true := all_getD [] (fun q hq' => hq q (by omega))
    rw [this, if_pos rfl]
    refine Ev.step (f := fun _ => some 0) (fun k => ?_) (Ev.now _)
    simp only [tithebarnref16_Check.l0]
    rw [if_neg (by omega)]
  | succ d ih =>
    intro i hi hq
    refine Ev.step (f := fun k => tithebarnref16_Check.l1 k i ((0 : Nat) : Int) n l) (fun k => ?_) (refCheck_l1 n l hl ht _ i (by omega) (fun hb => ih (i + 1) (by omega) (fun q hq' => ?_)) (fun hb => ?_) _ 0 (Nat.zero_add _) (fun q hq' => absurd hq' (Nat.not_lt_zero _)))
    · simp only [tithebarnref16_Check.l0]
      rw [if_pos (by omega)]
      rfl
    · by_cases e : q = i
      · rw [e]; exact hb
      · exact hq q (by omega)
    · rw [if_neg]
      rw [List.all_eq_true]
      intro h
      have := h (l.getD i []) (getD_in [] (by omega))
      rw [hb] at this
      cases this
theorem refCheck_ev (n : Int) (l : List (List Int)) (hl : l.length ≤ 1000000000) (ht : total l ≤ 1000000000) : Ev (fun k => tithebarnref16_Check.f k n l) (checkZ n l) := by
  unfold checkZ
  by_cases h1 : n > 100000
  · rw [if_pos h1]
    refine Ev.congr (f := fun k => tithebarnref16_Check.j0 k true n l) (fun k => by unfold tithebarnref16_Check.f; rw [if_pos h1]) (Ev.step (f := fun _ => some 160) (fun k => by simp only [tithebarnref16_Check.j0]; simp) (Ev.now _))
  · rw [if_neg h1]
    refine Ev.congr (f := fun k => (tithebarnref16_Count.f k n l).bind fun t106 => tithebarnref16_Check.j0 k (decide (t106 > 1000000)) n l) (fun k => by unfold tithebarnref16_Check.f; rw [if_neg h1]) (Ev.bind (refCount_ev n l hl ht) ?_)
    by_cases h2 : total l > 1000000
    · rw [if_pos h2]
      have e : decide ((total l : Int) > 1000000) = true := decide_eq_true (by omega)
      rw [e]
      exact Ev.step (f := fun _ => some 160) (fun k => by simp only [tithebarnref16_Check.j0]; simp) (Ev.now _)
    · rw [if_neg h2]
      have e : decide ((total l : Int) > 1000000) = false := decide_eq_false (by omega)
      rw [e]
      by_cases h3 : n < 0
      · rw [if_pos h3]
        exact Ev.step (f := fun _ => some 2) (fun k => by simp only [tithebarnref16_Check.j0]; rw [if_neg (by simp), if_pos h3]) (Ev.now _)
      · rw [if_neg h3]
        refine Ev.step (f := fun k => tithebarnref16_Check.l0 k ((0 : Nat) : Int) n l) (fun k => by simp only [tithebarnref16_Check.j0]; rw [if_neg (by simp), if_neg h3]; rfl) (refCheck_l0 n l hl ht l.length 0 (by omega) (fun q hq => absurd hq (Nat.not_lt_zero _)))
theorem works_f : tithebarnlaw16_works.f = some true := rfl
theorem CnfCheck_pure : ∀ (a0_0 : Int) (l0_1 : (List (List Int))), (Lit.int .i64 a0_0).wf = true → (l0_1.length ≤ maxLen ∧ ∀ y0 ∈ l0_1, (y0.length ≤ maxLen ∧ ∀ y1 ∈ y0, (Lit.int .i64 y1).wf = true)) → ∃ k, PCnf.tithebarnlaw16_CnfCheck.f k a0_0 l0_1 = some true := by
  intro a l _ _
  refine Ev.rounds (g := fun k => PCnf.tithebarnlaw16_CnfCheck.f k a l) ?_
  obtain ⟨b, h1, h2⟩ := few_ev 0 l 2000 (by omega) (by omega)
  refine Ev.bind h1 ?_
  cases b with
  | false => exact Ev.ite_neg (by simp) (Ev.now _)
  | true =>
    obtain ⟨_, h3, h4⟩ := h2 rfl
    refine Ev.ite_pos rfl ?_
    have e1 : cnf_Check.f a l = some (checkZ a l) := by unfold cnf_Check.f; rw [if_pos (by omega)]
    refine Ev.obind e1 (Ev.obind (a := (a, l)) rfl (Ev.bind (refCheck_ev a l (by omega) (by omega)) (Ev.ite_pos rfl ?_)))
    refine Ev.bind (cnfCount_ev a l (by omega) (by omega)) (Ev.obind (a := (a, l)) rfl (Ev.bind (refCount_ev a l (by omega) (by omega)) (Ev.ite_pos rfl (Ev.now _))))
end Go.Proofs.Ytjghhdgebmoohaa
