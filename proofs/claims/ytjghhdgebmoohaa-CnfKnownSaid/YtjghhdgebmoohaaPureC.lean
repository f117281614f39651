/- The plain side of cnf: Unit: the reference's and the program's come to one; what it sets holds in every model. -/
import Derived.Test.YtjghhdgebmoohaaPureB
import Derived.Test.YtjghhdgebmoohaaPCnfx7
import Derived.Test.YtjghhdgebmoohaaPCnfx8
import Derived.Test.YtjghhdgebmoohaaPCnfx9
namespace Go.Proofs.Ytjghhdgebmoohaa
open Go.RowKit Go.Proofs.YtjghhdgebmoohaaW.PrintWords Go.Proofs.YtjghhdgebmoohaaW.PrintLast Go.Proofs.YtjghhdgebmoohaaW.PrintMore PCnf
set_option linter.unusedVariables false
set_option linter.unusedSimpArgs false
theorem getD_set_ne {s : List Int} {i j : Nat} {x : Int} (h : i ≠ j) : (s.set i x).getD j 0 = s.getD j 0 := by
  simp [List.getD, List.getElem?_set, h]
theorem getD_set_eq {s : List Int} {i : Nat} {x : Int} (h : i < s.length) : (s.set i x).getD i 0 = x := by
  simp [List.getD, List.getElem?_set, h]
theorem Tells.put {n : Nat} {row s : List Int} (h : Tells n row s) {x : Int} (h0 : x ≠ 0) (h1 : x.natAbs ≤ n) (hs : s.getD x.natAbs 0 = 0) : Tells n (row ++ [x]) (s.set x.natAbs x) := by
  refine ⟨h.inv.put x h0 h1, fun y hy => ?_⟩
  rcases List.mem_append.1 hy with hy | hy
  · obtain ⟨a, b, c⟩ := h.all y hy
    refine ⟨a, b, ?_⟩
    by_cases e : x.natAbs = y.natAbs
    · rw [← e, hs] at c; exact absurd c.symm a
    · rw [getD_set_ne e]; exact c
  · rw [List.mem_singleton.1 hy]
    exact ⟨h0, h1, getD_set_eq (by have := h.inv.len; omega)⟩
/-- What holds of the state while the first literals are put. -/
structure PInv (n : Nat) (st : List Int × Bool × List Int) : Prop where
  inv : SInv n st.1 st.2.2
  ok : ∀ y ∈ st.1, y ≠ 0 ∧ y.natAbs ≤ n
  yes : st.2.1 = false → ∀ y ∈ st.1, st.2.2.getD y.natAbs 0 = y
  no : st.2.1 = true → ∃ y ∈ st.1, -y ∈ st.1
theorem PInv.step {n : Nat} {st : List Int × Bool × List Int} (h : PInv n st) {x : Int} (h0 : x ≠ 0) (h1 : x.natAbs ≤ n) : PInv n (putStep st x) := by
  obtain ⟨row, cl, s⟩ := st
  have hok : ∀ y ∈ row ++ [x], y ≠ 0 ∧ y.natAbs ≤ n := fun y hy => by
    rcases List.mem_append.1 hy with hy | hy
    · exact h.ok y hy
    · rw [List.mem_singleton.1 hy]; exact ⟨h0, h1⟩
  unfold putStep
  by_cases c1 : row.contains x
  · rw [if_pos c1]; exact h
  · rw [if_neg c1]
    have hm : x ∉ row := by simpa using c1
    by_cases c2 : s.getD x.natAbs 0 = -x
    · rw [if_pos c2]
      refine ⟨h.inv.more x, hok, (fun e => by cases e), fun _ => ⟨x, List.mem_append_right _ (by simp), List.mem_append_left _ ?_⟩⟩
      rcases h.inv.at_ x.natAbs h1 with h2 | ⟨_, h3, _⟩
      · exfalso
        have h2' : s.getD x.natAbs 0 = 0 := h2
        omega
      · have h3' : s.getD x.natAbs 0 ∈ row := h3
        rwa [c2] at h3'
    · rw [if_neg c2]
      have hs : s.getD x.natAbs 0 = 0 := (h.inv.fresh h0 h1 hm).resolve_left c2
      refine ⟨h.inv.put x h0 h1, hok, fun e => ?_, fun e => ?_⟩
      · exact fun y hy => ((Tells.put (row := row) (s := s) ⟨h.inv, fun z hz => ⟨(h.ok z hz).1, (h.ok z hz).2, h.yes e z hz⟩⟩ h0 h1 hs).all y hy).2.2
      · obtain ⟨y, q1, q2⟩ := h.no e
        exact ⟨y, List.mem_append_left _ q1, List.mem_append_left _ q2⟩
theorem PInv.fold {n : Nat} : ∀ (l : List Int) (st : List Int × Bool × List Int), PInv n st → (∀ y ∈ l, y ≠ 0 ∧ y.natAbs ≤ n) → PInv n (l.foldl putStep st) := by
  intro l
  induction l with
  | nil => intro st h _; exact h
  | cons x l ih =>
    intro st h hl
    obtain ⟨h0, h1⟩ := hl x List.mem_cons_self
    exact ih _ (h.step h0 h1) (fun y hy => hl y (List.mem_cons_of_mem _ hy))
theorem PInv.start (n : Nat) : PInv n ([], false, List.replicate (n + 1) 0) := ⟨SInv.start n, fun y hy => by simp at hy, fun _ y hy => by simp at hy, fun e => by cases e⟩
theorem PInv.tells {n : Nat} {st : List Int × Bool × List Int} (h : PInv n st) (e : st.2.1 = false) : Tells n st.1 st.2.2 := ⟨h.inv, fun y hy => ⟨(h.ok y hy).1, (h.ok y hy).2, h.yes e y hy⟩⟩
theorem putStep_row (st : List Int × Bool × List Int) (x : Int) : (putStep st x).1 = if st.1.contains x then st.1 else st.1 ++ [x] := by
  unfold putStep
  by_cases c1 : st.1.contains x
  · rw [if_pos c1, if_pos c1]
  · rw [if_neg c1, if_neg c1]
    split <;> rfl
theorem fold_length : ∀ (l : List Int) (st : List Int × Bool × List Int), (l.foldl putStep st).1.length ≤ st.1.length + l.length := by
  intro l
  induction l with
  | nil => intro st; simp
  | cons x l ih =>
    intro st
    have h1 := ih (putStep st x)
    have h2 : (putStep st x).1.length ≤ st.1.length + 1 := by rw [putStep_row]; split <;> simp
    simp only [List.foldl_cons, List.length_cons]
    omega
/-! What the clauses are. -/
def Skip (row c : List Int) : Prop := (leftL row c []).2 = true ∨ 2 ≤ (leftL row c []).1.length
def Dead (row c : List Int) : Prop := (leftL row c []).2 = false ∧ (leftL row c []).1 = []
def UnitC (row c : List Int) (x : Int) : Prop := (leftL row c []).2 = false ∧ (leftL row c []).1 = [x]
theorem open_kind {n : Nat} {row s : List Int} (h : Tells n row s) (c : List Int) (hc : ∀ y ∈ c, y ≠ 0 ∧ y.natAbs ≤ n) :
    ((openL (s.getD · 0) c 0 false).2 = true → Skip row c) ∧ ((openL (s.getD · 0) c 0 false).2 = false → (openL (s.getD · 0) c 0 false).1 = 0 → Dead row c) ∧ ((openL (s.getD · 0) c 0 false).2 = false → (openL (s.getD · 0) c 0 false).1 ≠ 0 → UnitC row c (openL (s.getD · 0) c 0 false).1) := by
  rcases open_left h c [] 0 false hc ⟨fun _ => rfl, fun _ => rfl⟩ (fun _ => .inl rfl) (fun e => by cases e) with ⟨h1, h2⟩ | ⟨h1, h2, h3, h4⟩
  · rw [h2]
    exact ⟨fun _ => .inl h1, (fun e => by cases e), (fun e => by cases e)⟩
  · refine ⟨fun e => .inr (h4 e), fun e1 e2 => ⟨h1, h2.1 e2⟩, fun e1 e2 => ⟨h1, (h3 e1).resolve_left (fun e => e2 (h2.2 e))⟩⟩
theorem scan_none {n : Nat} {row s : List Int} (h : Tells n row s) : ∀ (cls : List (List Int)) (next : Int), (∀ c ∈ cls, ∀ y ∈ c, y ≠ 0 ∧ y.natAbs ≤ n) → scanL (s.getD · 0) cls next = none → ∃ c ∈ cls, Dead row c := by
  intro cls
  induction cls with
  | nil => intro next _ e; simp [scanL] at e
  | cons c cs ih =>
    intro next hc e
    obtain ⟨k1, k2, k3⟩ := open_kind h c (hc c List.mem_cons_self)
    have hc' : ∀ c ∈ cs, ∀ y ∈ c, y ≠ 0 ∧ y.natAbs ≤ n := fun c hcc => hc c (List.mem_cons_of_mem _ hcc)
    have go : ∀ nx, scanL (s.getD · 0) cs nx = none → ∃ c' ∈ c :: cs, Dead row c' := fun nx e => by
      obtain ⟨c', q1, q2⟩ := ih nx hc' e
      exact ⟨c', List.mem_cons_of_mem _ q1, q2⟩
    unfold scanL at e
    by_cases h1 : (openL (s.getD · 0) c 0 false).2 = true
    · rw [if_pos h1] at e; exact go _ e
    · rw [if_neg h1] at e
      by_cases h2 : (openL (s.getD · 0) c 0 false).1 = 0
      · exact ⟨c, List.mem_cons_self, k2 (by simpa using h1) h2⟩
      · rw [if_neg h2] at e
        by_cases h3 : next = 0
        · rw [if_pos h3] at e; exact go _ e
        · rw [if_neg h3] at e; exact go _ e
theorem not_dead_of_skip {row c : List Int} (h : Skip row c) : ¬ Dead row c := by
  rintro ⟨h1, h2⟩
  rcases h with h | h
  · rw [h1] at h; cases h
  · rw [h2] at h; simp at h
theorem not_dead_of_unit {row c : List Int} {x : Int} (h : UnitC row c x) : ¬ Dead row c := by
  rintro ⟨h1, h2⟩
  rw [h.2] at h2
  cases h2
theorem scan_some {n : Nat} {row s : List Int} (h : Tells n row s) : ∀ (cls : List (List Int)) (next r : Int), (∀ c ∈ cls, ∀ y ∈ c, y ≠ 0 ∧ y.natAbs ≤ n) → scanL (s.getD · 0) cls next = some r →
    (∀ c ∈ cls, ¬ Dead row c) ∧ (next ≠ 0 → r = next) ∧ (next = 0 → (r = 0 ∧ ∀ c ∈ cls, Skip row c) ∨ (r ≠ 0 ∧ ∃ t, t < cls.length ∧ (∀ q, q < t → Skip row (cls.getD q [])) ∧ UnitC row (cls.getD t []) r)) := by
  intro cls
  induction cls with
  | nil =>
    intro next r _ e
    simp [scanL] at e
    exact ⟨fun c hc => by simp at hc, fun _ => e.symm, fun h0 => .inl ⟨by rw [← e, h0], fun c hc => by simp at hc⟩⟩
  | cons c cs ih =>
    intro next r hc e
    obtain ⟨k1, k2, k3⟩ := open_kind h c (hc c List.mem_cons_self)
    have hc' : ∀ c ∈ cs, ∀ y ∈ c, y ≠ 0 ∧ y.natAbs ≤ n := fun c hcc => hc c (List.mem_cons_of_mem _ hcc)
    unfold scanL at e
    by_cases h1 : (openL (s.getD · 0) c 0 false).2 = true
    · rw [if_pos h1] at e
      have hsk := k1 h1
      obtain ⟨a1, a2, a3⟩ := ih next r hc' e
      refine ⟨fun c' hc' => ?_, a2, fun h0 => ?_⟩
      · rcases List.mem_cons.1 hc' with rfl | hc'
        · exact not_dead_of_skip hsk
        · exact a1 c' hc'
      · rcases a3 h0 with ⟨b1, b2⟩ | ⟨b1, t, b2, b3, b4⟩
        · left
          refine ⟨b1, fun c' hc' => ?_⟩
          rcases List.mem_cons.1 hc' with rfl | hc'
          · exact hsk
          · exact b2 c' hc'
        · right
          refine ⟨b1, t + 1, by simpa using b2, fun q hq => ?_, by simpa using b4⟩
          cases q with
          | zero => exact hsk
          | succ q => simpa using b3 q (by omega)
    · rw [if_neg h1] at e
      have h1' : (openL (s.getD · 0) c 0 false).2 = false := by simpa using h1
      by_cases h2 : (openL (s.getD · 0) c 0 false).1 = 0
      · rw [if_pos h2] at e; cases e
      · rw [if_neg h2] at e
        have hu := k3 h1' h2
        by_cases h3 : next = 0
        · rw [if_pos h3] at e
          obtain ⟨a1, a2, a3⟩ := ih _ r hc' e
          have hr := a2 h2
          refine ⟨fun c' hc' => ?_, fun hh => absurd h3 hh, fun _ => .inr ⟨by rw [hr]; exact h2, 0, by simp, fun q hq => absurd hq (Nat.not_lt_zero _), by rw [hr]; exact hu⟩⟩
          rcases List.mem_cons.1 hc' with rfl | hc'
          · exact not_dead_of_unit hu
          · exact a1 c' hc'
        · rw [if_neg h3] at e
          obtain ⟨a1, a2, a3⟩ := ih next r hc' e
          refine ⟨fun c' hc' => ?_, a2, fun h0 => absurd h0 h3⟩
          rcases List.mem_cons.1 hc' with rfl | hc'
          · exact not_dead_of_unit hu
          · exact a1 c' hc'
/-! The reference's loops. -/
theorem clash_l1 (n : Int) (row : List Int) (cls : List (List Int)) (hl : cls.length ≤ 1000000000) (hr : row.length ≤ 1000000000) (hc : ∀ c ∈ cls, c.length ≤ 1000000000 ∧ ∀ y ∈ c, -100000 ≤ y ∧ y ≤ 100000) (R : Bool) :
    ∀ (d i : Nat), i + d = cls.length → (∀ q, q < i → ¬ Dead row (cls.getD q [])) → ((∀ c ∈ cls, ¬ Dead row c) → R = false) → ((∃ c ∈ cls, Dead row c) → R = true) → Ev (fun k => tithebarnref16_clash.l1 k row i n cls) R := by
  intro d
  induction d with
  | zero =>
    intro i hi hq hF hT
    have : R = false := hF (fun c hcc => by
      obtain ⟨q, hq', rfl⟩ := List.getElem_of_mem hcc
      have := hq q (by omega)
      rwa [List.getD_eq_getElem?_getD, List.getElem?_eq_getElem hq'] at this)
    rw [this]
    refine Ev.step (f := fun _ => some false) (fun k => ?_) (Ev.now _)
    simp only [tithebarnref16_clash.l1]
    rw [if_neg (by omega)]
  | succ d ih =>
    intro i hi hq hF hT
    obtain ⟨q1, q2⟩ := hc (cls.getD i []) (getD_in [] (by omega))
    have hstep : ∀ k, tithebarnref16_clash.l1 (k + 1) row i n cls = (tithebarnref16_left.f k (cls.getD i []) row).bind fun bt203 => (if bt203.2 = true then (tithebarnref16_clash.l1 k row ((i + 1 : Nat) : Int) n cls) else (if (bt203.1.length : Int) = 0 then (some true) else (tithebarnref16_clash.l1 k row ((i + 1 : Nat) : Int) n cls))) := by
      intro k
      simp only [tithebarnref16_clash.l1]
      rw [if_pos (by omega), if_pos (by omega), rdL_nat, wrap_id (by omega) (by omega)]
      rfl
    refine Ev.step hstep (Ev.bind (left_ev _ row q1 hr q2) ?_)
    by_cases h1 : (leftL row (cls.getD i []) []).2 = true
    · refine Ev.ite_pos h1 (ih (i + 1) (by omega) (fun q hq' => ?_) hF hT)
      by_cases e : q = i
      · rw [e]; exact not_dead_of_skip (.inl h1)
      · exact hq q (by omega)
    · refine Ev.ite_neg h1 ?_
      by_cases h2 : (leftL row (cls.getD i []) []).1 = []
      · have : R = true := hT ⟨_, getD_in [] (by omega), by simpa using h1, h2⟩
        rw [this]
        exact Ev.ite_pos (by rw [h2]; rfl) (Ev.now _)
      · have h3 : 0 < (leftL row (cls.getD i []) []).1.length := List.length_pos_iff.2 h2
        refine Ev.ite_neg (by omega) (ih (i + 1) (by omega) (fun q hq' => ?_) hF hT)
        by_cases e : q = i
        · rw [e]; exact fun hd => h2 hd.2
        · exact hq q (by omega)
theorem clash_l0_no (n : Int) (row : List Int) (cls : List (List Int)) (hr : row.length ≤ 1000000000) (hb : ∀ y ∈ row, -100000 ≤ y ∧ y ≤ 100000 ∧ -y ∉ row) (R : Bool) (hn : Ev (fun k => tithebarnref16_clash.l1 k row ((0 : Nat) : Int) n cls) R) :
    ∀ (d i : Nat), i + d = row.length → Ev (fun k => tithebarnref16_clash.l0 k row i n cls) R := by
  intro d
  induction d with
  | zero =>
    intro i hi
    refine Ev.step (fun k => ?_) hn
    simp only [tithebarnref16_clash.l0]
    rw [if_neg (by omega)]
    rfl
  | succ d ih =>
    intro i hi
    obtain ⟨b1, b2, b3⟩ := hb (row.getD i 0) (getD_in 0 (by omega))
    have hstep : ∀ k, tithebarnref16_clash.l0 (k + 1) row i n cls = (tithebarnref16_Has.f k row (-(row.getD i 0))).bind fun t201 => (if t201 = true then (some true) else (tithebarnref16_clash.l0 k row ((i + 1 : Nat) : Int) n cls)) := by
      intro k
      simp only [tithebarnref16_clash.l0]
      rw [if_pos (by omega), if_pos (by omega), rd_nat, wrap_id (by omega) (by omega), wrap_id (by omega) (by omega)]
      rfl
    refine Ev.step hstep (Ev.bind (has_ev row _ hr) ?_)
    have : row.contains (-(row.getD i 0)) = false := by simpa using b3
    rw [this]
    exact Ev.ite_neg (by simp) (ih (i + 1) (by omega))
theorem clash_l0_yes (n : Int) (row : List Int) (cls : List (List Int)) (hr : row.length ≤ 1000000000) (hb : ∀ y ∈ row, -100000 ≤ y ∧ y ≤ 100000) (he : ∃ y ∈ row, -y ∈ row) :
    ∀ (d i : Nat), i + d = row.length → (∀ q, q < i → -(row.getD q 0) ∉ row) → Ev (fun k => tithebarnref16_clash.l0 k row i n cls) true := by
  intro d
  induction d with
  | zero =>
    intro i hi hq
    obtain ⟨y, h1, h2⟩ := he
    obtain ⟨q, hq', rfl⟩ := List.getElem_of_mem h1
    exact absurd h2 (by have := hq q (by omega); rwa [List.getD_eq_getElem?_getD, List.getElem?_eq_getElem hq'] at this)
  | succ d ih =>
    intro i hi hq
    obtain ⟨b1, b2⟩ := hb (row.getD i 0) (getD_in 0 (by omega))
    have hstep : ∀ k, tithebarnref16_clash.l0 (k + 1) row i n cls = (tithebarnref16_Has.f k row (-(row.getD i 0))).bind fun t201 => (if t201 = true then (some true) else (tithebarnref16_clash.l0 k row ((i + 1 : Nat) : Int) n cls)) := by
      intro k
      simp only [tithebarnref16_clash.l0]
      rw [if_pos (by omega), if_pos (by omega), rd_nat, wrap_id (by omega) (by omega), wrap_id (by omega) (by omega)]
      rfl
    refine Ev.step hstep (Ev.bind (has_ev row _ hr) ?_)
    by_cases e : -(row.getD i 0) ∈ row
    · have : row.contains (-(row.getD i 0)) = true := by simpa using e
      rw [this]
      exact Ev.ite_pos rfl (Ev.now _)
    · have : row.contains (-(row.getD i 0)) = false := by simpa using e
      rw [this]
      exact Ev.ite_neg (by simp) (ih (i + 1) (by omega) (fun q hq' => by
        by_cases e' : q = i
        · rw [e']; exact e
        · exact hq q (by omega)))
theorem l2_step (n : Int) (row : List Int) (cls : List (List Int)) (hl : cls.length ≤ 1000000000) (i : Nat) (hi : i < cls.length) (k : Nat) : tithebarnref16_Unit.l2 (k + 1) row i n cls = (tithebarnref16_left.f k (cls.getD i []) row).bind fun bt219 => (if bt219.2 = true then (tithebarnref16_Unit.l2 k row ((i + 1 : Nat) : Int) n cls) else (if (bt219.1.length : Int) = 1 then (if 0 < (bt219.1.length : Int) then (if row.length < 17592186044416 then (tithebarnref16_Unit.l1 k (row ++ [rd bt219.1 0]) n cls) else (none)) else (none)) else (tithebarnref16_Unit.l2 k row ((i + 1 : Nat) : Int) n cls))) := by
  simp only [tithebarnref16_Unit.l2]
  rw [if_pos (by omega), if_pos (by omega), rdL_nat, wrap_id (by omega) (by omega)]
  have e : ¬ ((i : Int) = (cls.length : Int)) := by omega
  simp only [if_neg e, Option.bind_some]
  rfl
theorem unit_l2_none (n : Int) (row : List Int) (cls : List (List Int)) (hl : cls.length ≤ 1000000000) (hr : row.length ≤ 1000000000) (hc : ∀ c ∈ cls, c.length ≤ 1000000000 ∧ ∀ y ∈ c, -100000 ≤ y ∧ y ≤ 100000) (hs : ∀ c ∈ cls, Skip row c) :
    ∀ (d i : Nat), i + d = cls.length → Ev (fun k => tithebarnref16_Unit.l2 k row i n cls) (row, false) := by
  intro d
  induction d with
  | zero =>
    intro i hi
    refine Ev.step (f := fun _ => some (row, false)) (fun k => ?_) (Ev.now _)
    simp only [tithebarnref16_Unit.l2]
    rw [if_neg (by omega), if_pos (by omega)]
  | succ d ih =>
    intro i hi
    have hm : cls.getD i [] ∈ cls := getD_in [] (by omega)
    obtain ⟨q1, q2⟩ := hc _ hm
    refine Ev.step (l2_step n row cls hl i (by omega)) (Ev.bind (left_ev _ row q1 hr q2) ?_)
    rcases hs _ hm with h | h
    · exact Ev.ite_pos h (ih (i + 1) (by omega))
    · by_cases h1 : (leftL row (cls.getD i []) []).2 = true
      · exact Ev.ite_pos h1 (ih (i + 1) (by omega))
      · exact Ev.ite_neg h1 (Ev.ite_neg (by omega) (ih (i + 1) (by omega)))
theorem unit_l2_some (n : Int) (row : List Int) (cls : List (List Int)) (hl : cls.length ≤ 1000000000) (hr : row.length ≤ 1000000000) (hc : ∀ c ∈ cls, c.length ≤ 1000000000 ∧ ∀ y ∈ c, -100000 ≤ y ∧ y ≤ 100000) (t : Nat) (x : Int) (ht : t < cls.length) (hs : ∀ q, q < t → Skip row (cls.getD q [])) (hu : UnitC row (cls.getD t []) x) (R : List Int × Bool) (hn : Ev (fun k => tithebarnref16_Unit.l1 k (row ++ [x]) n cls) R) :
    ∀ (d i : Nat), i + d = t → Ev (fun k => tithebarnref16_Unit.l2 k row i n cls) R := by
  intro d
  induction d with
  | zero =>
    intro i hi
    have : i = t := by omega
    subst this
    obtain ⟨q1, q2⟩ := hc _ (getD_in [] ht)
    refine Ev.step (l2_step n row cls hl i ht) (Ev.bind (left_ev _ row q1 hr q2) (Ev.ite_neg (by rw [hu.1]; simp) ?_))
    rw [hu.2]
    exact Ev.ite_pos (by simp) (Ev.ite_pos (by simp) (Ev.ite_pos (by omega) hn))
  | succ d ih =>
    intro i hi
    obtain ⟨q1, q2⟩ := hc _ (getD_in (l := cls) (i := i) [] (by omega))
    refine Ev.step (l2_step n row cls hl i (by omega)) (Ev.bind (left_ev _ row q1 hr q2) ?_)
    rcases hs i (by omega) with h | h
    · exact Ev.ite_pos h (ih (i + 1) (by omega))
    · by_cases h1 : (leftL row (cls.getD i []) []).2 = true
      · exact Ev.ite_pos h1 (ih (i + 1) (by omega))
      · exact Ev.ite_neg h1 (Ev.ite_neg (by omega) (ih (i + 1) (by omega)))
theorem unit_l1 (n : Nat) (hn : n ≤ 100000) (cls : List (List Int)) (hl : cls.length ≤ 1000000000) (hc : ∀ c ∈ cls, c.length ≤ 1000000000 ∧ ∀ y ∈ c, y ≠ 0 ∧ y.natAbs ≤ n) :
    ∀ (z : Nat) (row s : List Int), zeros s = z → Tells n row s → row.length + z ≤ 1000000 → Ev (fun k => tithebarnref16_Unit.l1 k row n cls) (unitsL cls (z + 1) row s) := by
  have hc1 : ∀ c ∈ cls, c.length ≤ 1000000000 ∧ ∀ y ∈ c, -100000 ≤ y ∧ y ≤ 100000 := fun c hcc => ⟨(hc c hcc).1, fun y hy => by have := (hc c hcc).2 y hy; omega⟩
  have hc2 : ∀ c ∈ cls, ∀ y ∈ c, y ≠ 0 ∧ y.natAbs ≤ n := fun c hcc => (hc c hcc).2
  intro z
  induction z using Nat.strongRecOn with
  | _ z ih =>
    intro row s hz hT hlen
    have hcon : ∀ y ∈ row, -100000 ≤ y ∧ y ≤ 100000 ∧ -y ∉ row := fun y hy => by
      obtain ⟨a, b, c⟩ := hT.all y hy
      refine ⟨by omega, by omega, fun h => ?_⟩
      have := (hT.opp a b).2 h
      omega
    cases hsc : scanL (s.getD · 0) cls 0 with
    | none =>
      obtain ⟨c, h1, h2⟩ := scan_none hT cls 0 hc2 hsc
      have e : unitsL cls (z + 1) row s = (row, true) := by simp only [unitsL]; rw [hsc]
      rw [e]
      refine Ev.step (f := fun k => (tithebarnref16_clash.f k n cls row).bind fun t217 => (if t217 = true then (some (row, true)) else (tithebarnref16_Unit.l2 k row 0 n cls))) (fun k => by simp only [tithebarnref16_Unit.l1]) ?_
      refine Ev.bind (a := true) (clash_l0_no n row cls (by omega) hcon true (clash_l1 n row cls hl (by omega) hc1 true cls.length 0 (by omega) (fun q hq => absurd hq (Nat.not_lt_zero _)) (fun h => absurd h2 (h c h1)) (fun _ => rfl)) row.length 0 (by omega)) (Ev.ite_pos rfl (Ev.now _))
    | some r =>
      obtain ⟨a1, _, a3⟩ := scan_some hT cls 0 r hc2 hsc
      refine Ev.step (f := fun k => (tithebarnref16_clash.f k n cls row).bind fun t217 => (if t217 = true then (some (row, true)) else (tithebarnref16_Unit.l2 k row 0 n cls))) (fun k => by simp only [tithebarnref16_Unit.l1]) ?_
      refine Ev.bind (a := false) (clash_l0_no n row cls (by omega) hcon false (clash_l1 n row cls hl (by omega) hc1 false cls.length 0 (by omega) (fun q hq => absurd hq (Nat.not_lt_zero _)) (fun _ => rfl) (fun ⟨c, h1, h2⟩ => absurd h2 (a1 c h1))) row.length 0 (by omega)) (Ev.ite_neg (by simp) ?_)
      rcases a3 rfl with ⟨b1, b2⟩ | ⟨b1, t, b2, b3, b4⟩
      · have e : unitsL cls (z + 1) row s = (row, false) := by simp only [unitsL]; rw [hsc]; simp [b1]
        rw [e]
        exact unit_l2_none n row cls hl (by omega) hc1 b2 cls.length 0 (by omega)
      · obtain ⟨c, hcc, hin, hs1, hs2⟩ := (scanL_next _ _ _ _ hsc b1).resolve_left b1
        obtain ⟨r0, r1⟩ := hc2 c hcc r hin
        have hs0 : s.getD r.natAbs 0 = 0 := by
          rcases hT.inv.at_ r.natAbs r1 with h | ⟨h, _, _⟩
          · exact h
          · exfalso
            have h1 : s.getD r.natAbs 0 ≠ r := hs1
            have h2 : s.getD r.natAbs 0 ≠ -r := hs2
            omega
        have hzs := zeros_set (s := s) (j := r.natAbs) (x := r) (by have := hT.inv.len; omega) hs0 r0
        have e : unitsL cls (z + 1) row s = unitsL cls (zeros (s.set r.natAbs r) + 1) (row ++ [r]) (s.set r.natAbs r) := by
          rw [show unitsL cls (z + 1) row s = (match scanL (s.getD · 0) cls 0 with | none => (row, true) | some x => if x = 0 then (row, false) else unitsL cls z (row ++ [x]) (s.set x.natAbs x)) from rfl, hsc]
          simp only [if_neg b1]
          rw [hzs, hz]
        rw [e]
        exact unit_l2_some n row cls hl (by omega) hc1 t r b2 b3 b4 _ (ih _ (by omega) (row ++ [r]) (s.set r.natAbs r) rfl (hT.put r0 r1 hs0) (by simp; omega)) t 0 (by omega)
theorem unit_l0 (n : Nat) (hn : n ≤ 100000) (cls : List (List Int)) (hl : cls.length ≤ 1000000000) (lits : List Int) (hll : lits.length ≤ 100000) (R : List Int × Bool)
    (hbad : allB lits n = false → R = ([], true)) (hgood : allB lits n = true → Ev (fun k => tithebarnref16_Unit.l1 k (lits.foldl putStep ([], false, List.replicate (n + 1) 0)).1 n cls) R) :
    ∀ (d i : Nat), i + d = lits.length → (∀ q, q < i → litB (lits.getD q 0) n = true) → Ev (fun k => tithebarnref16_Unit.l0 k lits ((lits.take i).foldl putStep ([], false, List.replicate (n + 1) 0)).1 i n cls) R := by
  intro d
  induction d with
  | zero =>
    intro i hi hq
    have ha : allB lits n = true := all_getD 0 (fun q hq' => hq q (by omega))
    have e : lits.take i = lits := List.take_of_length_le (by omega)
    rw [e]
    refine Ev.step (fun k => ?_) (hgood ha)
    simp only [tithebarnref16_Unit.l0]
    rw [if_neg (by omega)]
  | succ d ih =>
    intro i hi hq
    have hfl := fold_length (lits.take i) ([], false, List.replicate (n + 1) 0)
    have hsn := foldl_snoc putStep ([], false, List.replicate (n + 1) 0) lits i (by omega)
    rw [show lits[i]'(by omega) = lits.getD i 0 by simp [show i < lits.length by omega]] at hsn
    have hrow : ((lits.take (i + 1)).foldl putStep ([], false, List.replicate (n + 1) 0)).1 = if ((lits.take i).foldl putStep ([], false, List.replicate (n + 1) 0)).1.contains (lits.getD i 0) then ((lits.take i).foldl putStep ([], false, List.replicate (n + 1) 0)).1 else ((lits.take i).foldl putStep ([], false, List.replicate (n + 1) 0)).1 ++ [lits.getD i 0] := by
      rw [hsn, putStep_row]
    have ih' := ih (i + 1) (by omega)
    rw [hrow] at ih'
    simp only [List.length_nil, List.length_take] at hfl
    generalize ((lits.take i).foldl putStep ([], false, List.replicate (n + 1) 0)).1 = row at *
    cases hb : litB (lits.getD i 0) n with
    | false =>
      have hf : allB lits n = false := by
        unfold allB
        rw [List.all_eq_false]
        exact ⟨lits.getD i 0, getD_in 0 (by omega), by rw [hb]; simp⟩
      rw [hbad hf]
      refine Ev.step (f := fun _ => some ([], true)) (fun k => ?_) (Ev.now _)
      simp only [tithebarnref16_Unit.l0]
      rw [if_pos (by omega), if_pos (by omega), rd_nat, lit_f, hb, Option.bind_some, if_neg (by simp)]
    | true =>
      have ih2 := ih' (fun q hq' => by
        by_cases e : q = i
        · rw [e]; exact hb
        · exact hq q (by omega))
      have hstep : ∀ k, tithebarnref16_Unit.l0 (k + 1) lits row i n cls = (tithebarnref16_Has.f k row (lits.getD i 0)).bind fun t212 => (if t212 = true then (tithebarnref16_Unit.l0 k lits row ((i + 1 : Nat) : Int) n cls) else (if row.length < 17592186044416 then (tithebarnref16_Unit.l0 k lits (row ++ [lits.getD i 0]) ((i + 1 : Nat) : Int) n cls) else (none))) := by
        intro k
        simp only [tithebarnref16_Unit.l0]
        rw [if_pos (by omega), if_pos (by omega), rd_nat, lit_f, hb, Option.bind_some, if_pos rfl, wrap_id (by omega) (by omega)]
        rfl
      refine Ev.step hstep (Ev.bind (has_ev row _ (by omega)) ?_)
      cases hcn : row.contains (lits.getD i 0) with
      | true => rw [hcn] at ih2; exact Ev.ite_pos rfl ih2
      | false => rw [hcn] at ih2; exact Ev.ite_neg (by simp) (Ev.ite_pos (by omega) ih2)
theorem unitB_eq {n : Int} {l : List (List Int)} {lits : List Int} (hz : checkZ n l = 0) (ha : allB lits n = true) : unitB n l lits = unitL n.toNat l lits := by
  unfold unitB
  rw [if_pos ⟨hz, ha⟩]
theorem allB_ok {n : Nat} {lits : List Int} (hn : n ≤ 100000) (ha : allB lits n = true) : ∀ y ∈ lits, y ≠ 0 ∧ y.natAbs ≤ n := fun y hy => by
  unfold allB at ha
  rw [List.all_eq_true] at ha
  obtain ⟨a, b, c, d⟩ := litB_bounds (ha y hy) (by omega) (by omega)
  exact ⟨a, by omega⟩
theorem refUnit_ev (n : Int) (l : List (List Int)) (lits : List Int) (hl : l.length ≤ 1000000000) (ht : total l ≤ 1000000000) (hll : lits.length ≤ 100000) : Ev (fun k => tithebarnref16_Unit.f k n l lits) (unitB n l lits) := by
  refine Ev.bind (refCheck_ev n l hl ht) ?_
  by_cases hz : checkZ n l = 0
  · refine Ev.ite_pos hz ?_
    obtain ⟨h0, h1, h2, hcl⟩ := checkZ_zero hz
    have hok := lits_ok hz
    obtain ⟨n', rfl⟩ := Int.eq_ofNat_of_zero_le h0
    have := unit_l0 n' (by omega) l hl lits hll (unitB n' l lits) (fun h => by unfold unitB; rw [if_neg (by rw [h]; simp)]) (fun ha => ?_) lits.length 0 (by omega) (fun q hq => absurd hq (Nat.not_lt_zero _))
    · simpa using this
    · rw [unitB_eq hz ha, Int.toNat_natCast]
      have hP := PInv.fold lits _ (PInv.start n') (allB_ok (by omega) ha)
      have hfl := fold_length lits ([], false, List.replicate (n' + 1) 0)
      simp only [List.length_nil] at hfl
      unfold unitL
      generalize lits.foldl putStep ([], false, List.replicate (n' + 1) 0) = st at *
      cases hcl : st.2.1 with
      | true =>
        simp only [hcl, if_true]
        have hb : ∀ y ∈ st.1, -100000 ≤ y ∧ y ≤ 100000 := fun y hy => by have := hP.ok y hy; omega
        refine Ev.step (f := fun k => (tithebarnref16_clash.f k n' l st.1).bind fun t217 => (if t217 = true then (some (st.1, true)) else (tithebarnref16_Unit.l2 k st.1 0 n' l))) (fun k => by simp only [tithebarnref16_Unit.l1]) ?_
        exact Ev.bind (a := true) (clash_l0_yes n' st.1 l (by omega) hb (hP.no hcl) st.1.length 0 (by omega) (fun q hq => absurd hq (Nat.not_lt_zero _))) (Ev.ite_pos rfl (Ev.now _))
      | false =>
        have hzl := zeros_le st.2.2
        have hsl := hP.inv.len
        have := unit_l1 n' (by omega) l hl (fun c hcc => ⟨by obtain ⟨q, hq, rfl⟩ := List.getElem_of_mem hcc; have := total_get l q hq; rw [List.getD_eq_getElem?_getD, List.getElem?_eq_getElem hq] at this; simp at this; omega, fun y hy => ⟨(hok c hcc y hy).1, by have := (hok c hcc y hy).2.2.2; omega⟩⟩) (zeros st.2.2) st.1 st.2.2 rfl (hP.tells hcl) (by omega)
        simp only [hcl, Bool.false_eq_true, if_false]
        exact this
  · refine Ev.ite_neg hz ?_
    have e : unitB n l lits = ([], true) := by unfold unitB; rw [if_neg (fun h => hz h.1)]
    rw [e]
    exact Ev.now _
theorem unitsL_length (cls : List (List Int)) : ∀ (k : Nat) (row s : List Int), (unitsL cls k row s).1.length ≤ row.length + k := by
  intro k
  induction k with
  | zero => intro row s; simp [unitsL]
  | succ k ih =>
    intro row s
    simp only [unitsL]
    split
    · simp
    · rename_i x _
      split
      · simp
      · have := ih (row ++ [x]) (s.set x.natAbs x)
        simp at this
        omega
theorem unitB_length (n : Int) (l : List (List Int)) (lits : List Int) (hn : n ≤ 100000) : (unitB n l lits).1.length ≤ lits.length + 100002 := by
  unfold unitB
  split
  · unfold unitL
    have hfl := fold_length lits ([], false, List.replicate (n.toNat + 1) 0)
    have hs : ∀ (l : List Int) (st : List Int × Bool × List Int), (l.foldl putStep st).2.2.length = st.2.2.length := by
      intro l
      induction l with
      | nil => intro st; rfl
      | cons x l ih =>
        intro st
        rw [List.foldl_cons, ih]
        unfold putStep
        split
        · rfl
        · split
          · rfl
          · simp
    have h2 := hs lits ([], false, List.replicate (n.toNat + 1) 0)
    simp only [List.length_nil, List.length_replicate] at hfl h2
    generalize lits.foldl putStep ([], false, List.replicate (n.toNat + 1) 0) = st at *
    have hz := zeros_le st.2.2
    have h3 := unitsL_length l (zeros st.2.2 + 1) st.1 st.2.2
    simp only
    split
    · simp only; omega
    · omega
  · simp
theorem CnfUnit_pure : ∀ (a0_0 : Int) (l0_1 : (List (List Int))) (l1 : (List Int)), (Lit.int .i64 a0_0).wf = true → (l0_1.length ≤ maxLen ∧ ∀ y0 ∈ l0_1, (y0.length ≤ maxLen ∧ ∀ y1 ∈ y0, (Lit.int .i64 y1).wf = true)) → (l1.length ≤ maxLen ∧ ∀ y0 ∈ l1, (Lit.int .i64 y0).wf = true) → ∃ k, PCnf.tithebarnlaw16_CnfUnit.f k a0_0 l0_1 l1 = some true := by
  intro a l m _ _ _
  refine Ev.rounds (g := fun k => PCnf.tithebarnlaw16_CnfUnit.f k a l m) ?_
  obtain ⟨b, h1, h2⟩ := few_ev a l 150 (by omega) (by omega)
  have hj : Ev (fun k => PCnf.tithebarnlaw16_CnfUnit.j0 k m true a l) true := Ev.step (f := fun _ => some true) (fun k => by simp only [PCnf.tithebarnlaw16_CnfUnit.j0]; rfl) (Ev.now _)
  refine Ev.bind h1 ?_
  cases b with
  | false => exact Ev.ite_neg (by simp) hj
  | true =>
    obtain ⟨h5, h3, h4⟩ := h2 rfl
    refine Ev.ite_pos rfl ?_
    cases hm : decide ((m.length : Int) > 60) with
    | true => exact hj
    | false =>
      have hm' : ¬ (m.length : Int) > 60 := of_decide_eq_false hm
      have e1 : cnf_Unit.f a l m = some (unitB a l m) := by unfold cnf_Unit.f; rw [if_pos ⟨by omega, by omega⟩]
      have hbl := unitB_length a l m (by omega)
      refine Ev.step (fun k => by simp only [PCnf.tithebarnlaw16_CnfUnit.j0]; rfl) (Ev.ite_neg (c := (false = true)) (f := fun _ => tithebarnlaw16_works.f.bind fun t181 => some t181) (by simp) ?_)
      refine Ev.obind e1 (Ev.obind (a := (a, l)) rfl (Ev.bind (refUnit_ev a l m (by omega) (by omega) (by omega)) (Ev.ite_pos (by simp) (Ev.bind (same_ev _ _ (by omega)) ?_))))
      exact Ev.ite_pos (by simp) (Ev.now _)
/-! Soundness. -/
theorem trueB_neg {m : List Bool} {y : Int} (h0 : y ≠ 0) (h : trueB m y = true) : trueB m (-y) = false := by
  unfold trueB at *
  rw [Int.natAbs_neg]
  generalize m.getD (y.natAbs - 1) false = b at *
  cases b with
  | true =>
    have : y > 0 := by simpa using h
    have e : ¬ (-y > 0) := by omega
    rw [decide_eq_false e]; rfl
  | false =>
    have : ¬ y > 0 := by simpa using h
    have e : -y > 0 := by omega
    rw [decide_eq_true e]; rfl
theorem unitsL_sound {n : Nat} {m : List Bool} {cls : List (List Int)} (hc : ∀ c ∈ cls, ∀ y ∈ c, y ≠ 0 ∧ y.natAbs ≤ n) (hm : ∀ c ∈ cls, c.any (trueB m) = true) :
    ∀ (k : Nat) (row s : List Int), Tells n row s → (∀ y ∈ row, trueB m y = true) → (unitsL cls k row s).2 = false ∧ ∀ y ∈ (unitsL cls k row s).1, y ≠ 0 ∧ y.natAbs ≤ n ∧ trueB m y = true := by
  intro k
  induction k with
  | zero => intro row s hT h; exact ⟨rfl, fun y hy => ⟨(hT.all y hy).1, (hT.all y hy).2.1, h y hy⟩⟩
  | succ k ih =>
    intro row s hT h
    have find : ∀ c ∈ cls, (leftL row c []).2 = false → ∃ y ∈ (leftL row c []).1, trueB m y = true := by
      intro c hcc hl
      obtain ⟨y, hy, ht⟩ := List.any_eq_true.1 (hm c hcc)
      rcases left_all row c [] hl y hy with h1 | h1
      · have := h (-y) h1
        rw [trueB_neg (hc c hcc y hy).1 ht] at this
        cases this
      · exact ⟨y, h1, ht⟩
    cases hsc : scanL (s.getD · 0) cls 0 with
    | none =>
      obtain ⟨c, h1, h2⟩ := scan_none hT cls 0 hc hsc
      obtain ⟨y, hy, _⟩ := find c h1 h2.1
      rw [h2.2] at hy
      simp at hy
    | some r =>
      have e : unitsL cls (k + 1) row s = if r = 0 then (row, false) else unitsL cls k (row ++ [r]) (s.set r.natAbs r) := by
        rw [show unitsL cls (k + 1) row s = (match scanL (s.getD · 0) cls 0 with | none => (row, true) | some x => if x = 0 then (row, false) else unitsL cls k (row ++ [x]) (s.set x.natAbs x)) from rfl, hsc]
      rw [e]
      obtain ⟨a1, _, a3⟩ := scan_some hT cls 0 r hc hsc
      by_cases h0 : r = 0
      · rw [if_pos h0]
        exact ⟨rfl, fun y hy => ⟨(hT.all y hy).1, (hT.all y hy).2.1, h y hy⟩⟩
      · rw [if_neg h0]
        rcases a3 rfl with ⟨b1, _⟩ | ⟨_, t, b2, b3, b4⟩
        · exact absurd b1 h0
        · obtain ⟨c, hcc, hin, hs1, hs2⟩ := (scanL_next _ _ _ _ hsc h0).resolve_left h0
          obtain ⟨r0, r1⟩ := hc c hcc r hin
          have hs0 : s.getD r.natAbs 0 = 0 := by
            rcases hT.inv.at_ r.natAbs r1 with h | ⟨h, _, _⟩
            · exact h
            · exfalso
              have h1 : s.getD r.natAbs 0 ≠ r := hs1
              have h2 : s.getD r.natAbs 0 ≠ -r := hs2
              omega
          obtain ⟨y, hy, ht⟩ := find _ (getD_in [] b2) b4.1
          rw [b4.2] at hy
          have hyr := List.mem_singleton.1 hy
          refine ih _ _ (hT.put r0 r1 hs0) (fun z hz => ?_)
          rcases List.mem_append.1 hz with hz | hz
          · exact h z hz
          · rw [List.mem_singleton.1 hz, ← hyr]; exact ht
theorem fold_mem : ∀ (l : List Int) (st : List Int × Bool × List Int) (y : Int), y ∈ (l.foldl putStep st).1 → y ∈ st.1 ∨ y ∈ l := by
  intro l
  induction l with
  | nil => intro st y hy; exact .inl hy
  | cons x l ih =>
    intro st y hy
    rcases ih _ _ hy with h | h
    · rw [putStep_row] at h
      split at h
      · exact .inl h
      · rcases List.mem_append.1 h with h | h
        · exact .inl h
        · right; rw [List.mem_singleton.1 h]; exact List.mem_cons_self
    · exact .inr (List.mem_cons_of_mem _ h)
theorem unitB_sound {n : Int} {l : List (List Int)} {lits : List Int} {m : List Bool} (hh : holdsB n l m = true) (ha : allB lits n = true) (hl : ∀ y ∈ lits, trueB m y = true) :
    (unitB n l lits).2 = false ∧ ∀ y ∈ (unitB n l lits).1, y ≠ 0 ∧ (y.natAbs : Int) ≤ n ∧ trueB m y = true := by
  unfold holdsB at hh
  simp only [Bool.and_eq_true, decide_eq_true_eq] at hh
  obtain ⟨⟨hz, hnm⟩, hcm⟩ := hh
  obtain ⟨h0, h1, h2, hcl⟩ := checkZ_zero hz
  have hok := lits_ok hz
  rw [unitB_eq hz ha]
  obtain ⟨n', rfl⟩ := Int.eq_ofNat_of_zero_le h0
  rw [Int.toNat_natCast]
  have hP := PInv.fold lits _ (PInv.start n') (allB_ok (by omega) ha)
  have hmem := fold_mem lits ([], false, List.replicate (n' + 1) 0)
  unfold unitL
  generalize lits.foldl putStep ([], false, List.replicate (n' + 1) 0) = st at *
  have htr : ∀ y ∈ st.1, trueB m y = true := fun y hy => by
    rcases hmem y hy with h | h
    · simp at h
    · exact hl y h
  cases hcl : st.2.1 with
  | true =>
    obtain ⟨y, q1, q2⟩ := hP.no hcl
    have := trueB_neg (hP.ok y q1).1 (htr y q1)
    rw [htr _ q2] at this
    cases this
  | false =>
    have := unitsL_sound (n := n') (m := m) (cls := l) (fun c hcc y hy => ⟨(hok c hcc y hy).1, by have := (hok c hcc y hy).2.2.2; omega⟩) (fun c hcc => List.all_eq_true.1 hcm c hcc) (zeros st.2.2 + 1) st.1 st.2.2 (hP.tells hcl) htr
    simp only [hcl, Bool.false_eq_true, if_false]
    exact ⟨this.1, fun y hy => ⟨(this.2 y hy).1, by have := (this.2 y hy).2.1; omega, (this.2 y hy).2.2⟩⟩
theorem sound_l1 (m : List Bool) (row : List Int) (hr : row.length ≤ 1000000000) (hrow : ∀ y ∈ row, tithebarnref16_True.f y m = some true) : ∀ (d i : Nat), i + d = row.length → Ev (fun k => PCnf.tithebarnlaw16_CnfSound.l1 k m row false i) true := by
  intro d
  induction d with
  | zero =>
    intro i hi
    refine Ev.step (f := fun _ => some true) (fun k => ?_) (Ev.now _)
    simp only [PCnf.tithebarnlaw16_CnfSound.l1]
    rw [if_neg (by omega), if_neg (by simp)]
    rfl
  | succ d ih =>
    intro i hi
    refine Ev.step (fun k => ?_) (ih (i + 1) (by omega))
    simp only [PCnf.tithebarnlaw16_CnfSound.l1]
    rw [if_pos (by omega), if_pos (by omega), rd_nat, hrow _ (getD_in 0 (by omega)), Option.bind_some, if_pos rfl, wrap_id (by omega) (by omega)]
    rfl
theorem sound_l0 (n : Nat) (l : List (List Int)) (lits : List Int) (m : List Bool) (hn : n ≤ 100000) (hnm : n ≤ m.length) (hll : lits.length ≤ 1000000000) (hfin : allB lits n = true → (∀ y ∈ lits, trueB m y = true) → Ev (fun k => (cnf_Unit.f n l lits).bind fun bt254 => PCnf.tithebarnlaw16_CnfSound.l1 k m bt254.1 bt254.2 0) true) :
    ∀ (d i : Nat), i + d = lits.length → (∀ q, q < i → litB (lits.getD q 0) n = true ∧ trueB m (lits.getD q 0) = true) → Ev (fun k => PCnf.tithebarnlaw16_CnfSound.l0 k lits m i n l) true := by
  intro d
  induction d with
  | zero =>
    intro i hi hq
    refine Ev.step (fun k => ?_) (hfin (all_getD 0 (fun q hq' => (hq q (by omega)).1)) (fun y hy => by
      obtain ⟨q, hq', rfl⟩ := List.getElem_of_mem hy
      have := (hq q (by omega)).2
      rwa [List.getD_eq_getElem?_getD, List.getElem?_eq_getElem hq'] at this))
    simp only [PCnf.tithebarnlaw16_CnfSound.l0]
    rw [if_neg (by omega)]
  | succ d ih =>
    intro i hi hq
    generalize hx : lits.getD i 0 = x at *
    have hw : wrap64 (-(n : Int)) = -(n : Int) := wrap_id (by omega) (by omega)
    by_cases c1 : x = 0
    · refine Ev.step (f := fun _ => some true) (fun k => ?_) (Ev.now _)
      simp only [PCnf.tithebarnlaw16_CnfSound.l0]
      rw [if_pos (by omega), if_pos (by omega), rd_nat, hx, if_pos c1]
      rfl
    · by_cases c2 : x > (n : Int)
      · refine Ev.step (f := fun _ => some true) (fun k => ?_) (Ev.now _)
        simp only [PCnf.tithebarnlaw16_CnfSound.l0]
        rw [if_pos (by omega), if_pos (by omega), rd_nat, hx, if_neg c1, if_pos c2]
        rfl
      · by_cases c3 : x < -(n : Int)
        · refine Ev.step (f := fun _ => some true) (fun k => ?_) (Ev.now _)
          simp only [PCnf.tithebarnlaw16_CnfSound.l0]
          rw [if_pos (by omega), if_pos (by omega), rd_nat, hx, if_neg c1, if_neg c2, hw, if_pos c3]
          rfl
        · have hT := true_f x m c1 (by omega) (by omega) (by omega)
          cases ht : trueB m x with
          | false =>
            refine Ev.step (f := fun _ => some true) (fun k => ?_) (Ev.now _)
            simp only [PCnf.tithebarnlaw16_CnfSound.l0]
            rw [if_pos (by omega), if_pos (by omega), rd_nat, hx, if_neg c1, if_neg c2, hw, if_neg c3, hT, ht, Option.bind_some, if_neg (by simp)]
            rfl
          | true =>
            refine Ev.step (fun k => ?_) (ih (i + 1) (by omega) (fun q hq' => by
              by_cases e : q = i
              · rw [e, hx]
                refine ⟨?_, ht⟩
                unfold litB
                rw [hw]
                simp [c1]
                omega
              · exact hq q (by omega)))
            simp only [PCnf.tithebarnlaw16_CnfSound.l0]
            rw [if_pos (by omega), if_pos (by omega), rd_nat, hx, if_neg c1, if_neg c2, hw, if_neg c3, hT, ht, Option.bind_some, if_pos rfl, wrap_id (by omega) (by omega)]
            rfl
theorem CnfSound_pure : ∀ (a0_0 : Int) (l0_1 : (List (List Int))) (l1 : (List Int)) (l2 : (List Bool)), (Lit.int .i64 a0_0).wf = true → (l0_1.length ≤ maxLen ∧ ∀ y0 ∈ l0_1, (y0.length ≤ maxLen ∧ ∀ y1 ∈ y0, (Lit.int .i64 y1).wf = true)) → (l1.length ≤ maxLen ∧ ∀ y0 ∈ l1, (Lit.int .i64 y0).wf = true) → (l2.length ≤ maxLen ∧ ∀ y0 ∈ l2, True) → ∃ k, PCnf.tithebarnlaw16_CnfSound.f k a0_0 l0_1 l1 l2 = some true := by
  intro a l lits m _ _ _ _
  refine Ev.rounds (g := fun k => PCnf.tithebarnlaw16_CnfSound.f k a l lits m) ?_
  obtain ⟨b, h1, h2⟩ := few_ev a l 150 (by omega) (by omega)
  have hj : Ev (fun k => PCnf.tithebarnlaw16_CnfSound.j0 k lits m true a l) true := Ev.step (f := fun _ => some true) (fun k => by simp only [PCnf.tithebarnlaw16_CnfSound.j0]; rfl) (Ev.now _)
  refine Ev.bind h1 ?_
  cases b with
  | false => exact Ev.ite_neg (by simp) hj
  | true =>
    obtain ⟨h5, h3, h4⟩ := h2 rfl
    refine Ev.ite_pos rfl ?_
    by_cases c1 : (lits.length : Int) > 60
    · exact Ev.ite_pos c1 hj
    · refine Ev.ite_neg c1 ?_
      by_cases c2 : (m.length : Int) > 200
      · exact Ev.ite_pos c2 hj
      · refine Ev.ite_neg c2 ?_
        have e1 : cnf_Holds.f a l m = some (holdsB a l m) := by unfold cnf_Holds.f; rw [if_pos (by omega)]
        refine Ev.obind e1 ?_
        cases hh : holdsB a l m with
        | false => exact hj
        | true =>
          refine Ev.step (f := fun k => PCnf.tithebarnlaw16_CnfSound.l0 k lits m 0 a l) (fun k => by simp only [PCnf.tithebarnlaw16_CnfSound.j0]; rfl) ?_
          have hh' := hh
          unfold holdsB at hh'
          simp only [Bool.and_eq_true, decide_eq_true_eq] at hh'
          obtain ⟨⟨hz, hnm⟩, _⟩ := hh'
          obtain ⟨n0, n1, _, _⟩ := checkZ_zero hz
          obtain ⟨n, rfl⟩ := Int.eq_ofNat_of_zero_le n0
          refine sound_l0 n l lits m (by omega) (by omega) (by omega) (fun ha hl => ?_) lits.length 0 (by omega) (fun q hq => absurd hq (Nat.not_lt_zero _))
          have e2 : cnf_Unit.f n l lits = some (unitB n l lits) := by unfold cnf_Unit.f; rw [if_pos ⟨by omega, by omega⟩]
          refine Ev.obind e2 ?_
          obtain ⟨s1, s2⟩ := unitB_sound hh ha hl
          have hbl := unitB_length n l lits (by omega)
          rw [s1]
          exact sound_l1 m _ (by omega) (fun y hy => by
            obtain ⟨q1, q2, q3⟩ := s2 y hy
            rw [true_f y m q1 (by omega) (by omega) (by omega), q3]) _ 0 (Nat.zero_add _)
end Go.Proofs.Ytjghhdgebmoohaa
