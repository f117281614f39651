/- The plain side of cnf: Norm: the sorted row without doubles is one, however it was made. -/
import Derived.Test.YtjghhdgebmoohaaPureB
import Derived.Test.YtjghhdgebmoohaaPCnfx5
import Derived.Test.YtjghhdgebmoohaaPCnfx4
namespace Go.Proofs.Ytjghhdgebmoohaa
open Go.RowKit Go.Proofs.YtjghhdgebmoohaaW.PrintWords Go.Proofs.YtjghhdgebmoohaaW.PrintLast Go.Proofs.YtjghhdgebmoohaaW.PrintMore PCnf Go.Lib Go.Sort
set_option linter.unusedVariables false
set_option linter.unusedSimpArgs false
/-- Stands x ahead of y in the normal form? -/
def ltZ (x y : Int) : Prop := x.natAbs < y.natAbs ∨ (x.natAbs = y.natAbs ∧ y < x)
theorem ltZ_trans {x y z : Int} (h1 : ltZ x y) (h2 : ltZ y z) : ltZ x z := by unfold ltZ at *; omega
theorem ltZ_irrefl (x : Int) : ¬ ltZ x x := by unfold ltZ; omega
theorem ltZ_tri {x y : Int} (h : x ≠ y) : ltZ x y ∨ ltZ y x := by unfold ltZ; omega
instance (x y : Int) : Decidable (ltZ x y) := by unfold ltZ; exact inferInstance
theorem sizeW_small {x : Int} (h1 : -100000 ≤ x) (h2 : x ≤ 100000) : sizeW x = x.natAbs := by
  unfold sizeW
  rw [wrap_id (by omega) (by omega)]
  split <;> omega
theorem lt_ltZ {x y : Int} (h1 : -100000 ≤ x) (h2 : x ≤ 100000) (h3 : -100000 ≤ y) (h4 : y ≤ 100000) : ltOf cfN x y = true ↔ ltZ x y := by
  rw [ltN, sizeW_small h1 h2, sizeW_small h3 h4, decide_eq_true_eq]
  unfold ltZ
  omega
/-- Two strictly rising rows of the same numbers are one. -/
theorem rising_eq {l m : List Int} (h1 : l.Pairwise ltZ) (h2 : m.Pairwise ltZ) (h : ∀ x, x ∈ l ↔ x ∈ m) : l = m := by
  have n1 : l.Nodup := h1.imp (fun {a b} (hh : ltZ a b) (e : a = b) => ltZ_irrefl b (by rw [e] at hh; exact hh))
  have n2 : m.Nodup := h2.imp (fun {a b} (hh : ltZ a b) (e : a = b) => ltZ_irrefl b (by rw [e] at hh; exact hh))
  exact List.Perm.eq_of_pairwise (fun a b _ _ q1 q2 => absurd (ltZ_trans q1 q2) (ltZ_irrefl _)) h1 h2 ((List.perm_ext_iff_of_nodup n1 n2).2 h)
theorem compact_mem {zs : List Int} {x : Int} (h : x ∈ zs) : x ∈ Lib.compact zs := by
  obtain ⟨i, hi, rfl⟩ := List.getElem_of_mem h
  have key : ∀ i, (hi : i < zs.length) → zs[i] ∈ Lib.compact zs := by
    intro i
    induction i with
    | zero =>
      intro hi
      unfold Lib.compact Lib.compactUpTo
      exact List.mem_map.2 ⟨0, List.mem_filter.2 ⟨List.mem_range.2 hi, by simp [keeps]⟩, by simp [hi]⟩
    | succ i ih =>
      intro hi
      by_cases e : zs[i + 1] = zs[i]
      · rw [e]; exact ih (by omega)
      · unfold Lib.compact Lib.compactUpTo
        refine List.mem_map.2 ⟨i + 1, List.mem_filter.2 ⟨List.mem_range.2 hi, ?_⟩, by simp [hi]⟩
        simp [keeps, hi, show i < zs.length by omega, e]
  exact key i hi
theorem compact_rising {zs : List Int} (h : ∀ (i j : Nat) (hlt : i < j) (hj : j < zs.length), zs[i]'(Nat.lt_trans hlt hj) = zs[j] ∨ ltZ (zs[i]'(Nat.lt_trans hlt hj)) zs[j]) : (Lib.compact zs).Pairwise ltZ := by
  unfold Lib.compact Lib.compactUpTo
  rw [List.pairwise_map]
  have hr : (List.range zs.length).Pairwise (· < ·) := List.pairwise_lt_range
  refine List.Pairwise.imp_of_mem ?_ (hr.filter _)
  intro i j hi hj hlt
  have hi' := List.mem_range.1 (List.mem_filter.1 hi).1
  have hj' := List.mem_range.1 (List.mem_filter.1 hj).1
  have hk := (List.mem_filter.1 hj).2
  have e1 : zs.toArray[i]! = zs[i] := by simp [hi']
  have e2 : zs.toArray[j]! = zs[j] := by simp [hj']
  rw [e1, e2]
  have hne : zs[j] ≠ zs[j - 1] := by
    simp only [keeps, decide_eq_true_eq] at hk
    rcases hk with hk | hk
    · omega
    · have e3 : zs.toArray[j - 1]! = zs[j - 1] := by simp [show j - 1 < zs.length by omega]
      rw [e2, e3] at hk
      exact hk
  have h1 : ltZ zs[j - 1] zs[j] := by
    rcases h (j - 1) j (by omega) hj' with h1 | h1
    · exact absurd h1.symm hne
    · exact h1
  by_cases e : i = j - 1
  · subst e; exact h1
  · rcases h i (j - 1) (by omega) (by omega) with h2 | h2
    · rw [h2]; exact h1
    · exact ltZ_trans h2 h1
theorem sortN_mem {c : List Int} {x : Int} : x ∈ sortN c ↔ x ∈ c := ⟨mem_sortN, fun h => by
  unfold sortN
  exact compact_mem ((List.mergeSort_perm c _).mem_iff.2 h)⟩
theorem sortN_rising {c : List Int} (hb : ∀ y ∈ c, -100000 ≤ y ∧ y ≤ 100000) : (sortN c).Pairwise ltZ := by
  unfold sortN
  have hp := List.pairwise_mergeSort (le := fun x y => !(ltOf cfN) y x) (fun a b c q1 q2 => by
    simp only [Bool.not_eq_true'] at *
    exact swoN.ntrans _ _ _ q2 q1) (fun a b => by
    cases q1 : ltOf cfN b a with
    | false => simp
    | true =>
      cases q2 : ltOf cfN a b with
      | false => simp
      | true => exact absurd (swoN.trans _ _ _ q1 q2) (by rw [swoN.irrefl]; simp)) c
  have hm := fun x => (List.mergeSort_perm c (fun x y => !(ltOf cfN) y x)).mem_iff (a := x)
  generalize (c.mergeSort fun x y => !(ltOf cfN) y x) = zs at *
  refine compact_rising (fun i j hlt hj => ?_)
  have h1 := List.pairwise_iff_getElem.1 hp i j (by omega) hj hlt
  obtain ⟨b1, b2⟩ := hb zs[i] ((hm _).1 (List.getElem_mem _))
  obtain ⟨b3, b4⟩ := hb zs[j] ((hm _).1 (List.getElem_mem _))
  by_cases e : zs[i] = zs[j]
  · exact .inl e
  · right
    rcases ltZ_tri e with h | h
    · exact h
    · rw [(lt_ltZ b3 b4 b1 b2).2 h] at h1
      cases h1
theorem opp_iff {c : List Int} (hb : ∀ y ∈ c, y ≠ 0 ∧ -100000 ≤ y ∧ y ≤ 100000) : oppB (sortN c) = true ↔ ∃ y ∈ c, -y ∈ c := by
  have hr := sortN_rising (c := c) (fun y hy => (hb y hy).2)
  constructor
  · intro h
    unfold oppB at h
    obtain ⟨k, hk, h⟩ := List.any_eq_true.1 h
    have hk' := List.mem_range.1 hk
    simp only [Bool.and_eq_true, decide_eq_true_eq, beq_iff_eq] at h
    have m1 : (sortN c).getD k 0 ∈ c := mem_sortN (getD_in 0 hk')
    have m2 : (sortN c).getD (k - 1) 0 ∈ c := mem_sortN (getD_in 0 (by omega))
    exact ⟨_, m2, by rw [← h.2]; exact m1⟩
  · rintro ⟨y, h1, h2⟩
    -- a positive one and its opposite
    obtain ⟨p, hp0, hp1, hp2⟩ : ∃ p : Int, 0 < p ∧ p ∈ c ∧ -p ∈ c := by
      have := (hb y h1).1
      by_cases h : 0 < y
      · exact ⟨y, h, h1, h2⟩
      · exact ⟨-y, by omega, h2, by rw [Int.neg_neg]; exact h1⟩
    obtain ⟨i, hi, ei⟩ := List.getElem_of_mem (sortN_mem.2 hp1)
    obtain ⟨j, hj, ej⟩ := List.getElem_of_mem (sortN_mem.2 hp2)
    have pw := List.pairwise_iff_getElem.1 hr
    have hij : i < j := by
      rcases Nat.lt_trichotomy i j with h | h | h
      · exact h
      · subst h; rw [ei] at ej; omega
      · have := pw j i hj hi h
        rw [ei, ej] at this
        unfold ltZ at this
        omega
    have hadj : j = i + 1 := by
      by_cases e : j = i + 1
      · exact e
      · exfalso
        have q1 := pw i (i + 1) hi (by omega) (by omega)
        have q2 := pw (i + 1) j (by omega) hj (by omega)
        rw [ei] at q1
        rw [ej] at q2
        unfold ltZ at q1 q2
        omega
    subst hadj
    refine oppB_true (k := i + 1) (by omega) hj ?_
    simp only [Nat.add_sub_cancel]
    rw [List.getD_eq_getElem?_getD, List.getElem?_eq_getElem hj, List.getD_eq_getElem?_getD, List.getElem?_eq_getElem hi]
    simp only [Option.getD_some]
    rw [ei, ej]
theorem ahead_f {x y : Int} (h1 : -100000 ≤ x) (h2 : x ≤ 100000) (h3 : -100000 ≤ y) (h4 : y ≤ 100000) : tithebarnref16_ahead.f x y = some (decide (ltZ x y)) := by
  unfold tithebarnref16_ahead.f ltZ
  rw [size_f x h1 h2, size_f y h3 h4]
  simp only [Option.bind_some]
  by_cases c1 : x.natAbs < y.natAbs
  · rw [if_pos (by omega)]; simp [c1]
  · rw [if_neg (by omega)]
    by_cases c2 : x.natAbs = y.natAbs
    · rw [if_pos (by omega)]; simp [c2]
    · rw [if_neg (by omega)]; simp [c1, c2]
/-! The reference's loops. -/
theorem norm_l2 (c : List Int) (i : Nat) (hi : i < c.length) (hcl : c.length ≤ 1000000000) (x : Int) (hx1 : -100000 ≤ x) (hx2 : x ≤ 100000) (R : List Int × Bool) :
    ∀ (n : Nat) (pre post : List Int), pre.length = n → n + post.length ≤ 1000000000 → (∀ y ∈ pre ++ post, -100000 ≤ y ∧ y ≤ 100000 ∧ y ≠ x) → (pre ++ post).Pairwise ltZ → (∀ y ∈ post, ltZ x y) →
    (∀ l' : List Int, l'.Pairwise ltZ → (∀ y, y ∈ l' ↔ y = x ∨ y ∈ pre ++ post) → l'.length = n + post.length + 1 → Ev (fun k => tithebarnref16_Norm.l1 k c l' ((i + 1 : Nat) : Int)) R) →
    Ev (fun k => tithebarnref16_Norm.l2 k c (pre ++ x :: post) i n) R := by
  intro n
  induction n with
  | zero =>
    intro pre post hp hl hb hs hpost hn
    have : pre = [] := List.length_eq_zero_iff.1 hp
    subst this
    refine Ev.step (fun k => ?_) (hn (x :: post) (List.pairwise_cons.2 ⟨hpost, hs⟩) (fun y => by simp) (by simp))
    simp only [tithebarnref16_Norm.l2]
    rw [if_neg (by simp), wrap_id (by omega) (by omega)]
    rfl
  | succ n ih =>
    intro pre post hp hl hb hs hpost hn
    obtain ⟨pre', y, rfl⟩ : ∃ pre' y, pre = pre' ++ [y] := ⟨pre.dropLast, pre.getLast (by intro e; rw [e] at hp; simp at hp), (List.dropLast_concat_getLast _).symm⟩
    have hp' : pre'.length = n := by simpa using hp
    have hy : y ∈ (pre' ++ [y]) ++ post := by simp
    obtain ⟨y1, y2, y3⟩ := hb y hy
    have r1 : rd ((pre' ++ [y]) ++ x :: post) ((n + 1 : Nat) : Int) = x := by
      rw [rd_nat]; simp [List.getD, List.getElem?_append, hp']
    have r2 : rd ((pre' ++ [y]) ++ x :: post) ((n : Nat) : Int) = y := by
      rw [rd_nat]; simp [List.getD, List.getElem?_append, hp']
    have hw : wrap64 (((n + 1 : Nat) : Int) - 1) = ((n : Nat) : Int) := by rw [wrap_id (by omega) (by omega)]; omega
    have hlen : ((pre' ++ [y]) ++ x :: post).length = n + 1 + post.length + 1 := by simp [hp']; omega
    have hset : ((((pre' ++ [y]) ++ x :: post).set (((n + 1 : Nat) : Int)).toNat y).set (((n : Nat) : Int)).toNat x) = pre' ++ x :: (y :: post) := by
      simp [List.set_append, hp']
    have hstep : ∀ k, tithebarnref16_Norm.l2 (k + 1) c ((pre' ++ [y]) ++ x :: post) i ((n + 1 : Nat) : Int) = if ltZ x y then tithebarnref16_Norm.l2 k c (pre' ++ x :: (y :: post)) i ((n : Nat) : Int) else tithebarnref16_Norm.l1 k c ((pre' ++ [y]) ++ x :: post) ((i + 1 : Nat) : Int) := by
      intro k
      simp only [tithebarnref16_Norm.l2]
      rw [hw, if_pos (by omega), if_pos (by omega), if_pos (by omega), if_pos (by omega), if_pos (by omega), r1, r2, ahead_f hx1 hx2 y1 y2, Option.bind_some, hset, wrap_id (by omega) (by omega)]
      by_cases c1 : ltZ x y
      · rw [if_pos (by simpa using c1), if_pos c1]
      · rw [if_neg (by simpa using c1), if_neg c1]
        rfl
    refine Ev.step hstep ?_
    have e0 : (pre' ++ [y]) ++ post = pre' ++ y :: post := by simp
    rw [e0] at hb hs
    by_cases c1 : ltZ x y
    · refine Ev.ite_pos c1 (ih pre' (y :: post) hp' (by simp; omega) hb hs (fun z hz => ?_) (fun l' q1 q2 q3 => hn l' q1 (fun z => by rw [q2 z, e0]) (by rw [q3]; simp; omega)))
      rcases List.mem_cons.1 hz with rfl | hz
      · exact c1
      · exact hpost z hz
    · have c2 : ltZ y x := (ltZ_tri (fun e => y3 e.symm)).resolve_left c1
      refine Ev.ite_neg c1 (hn _ ?_ (fun z => by simp; constructor <;> (intro h; rcases h with h | h | h | h <;> simp [h])) hlen)
      rw [List.append_assoc, List.pairwise_append] at *
      obtain ⟨s1, s2, s3⟩ := hs
      have s4 := List.pairwise_cons.1 s2
      refine ⟨s1, ?_, ?_⟩
      · show ([y] ++ x :: post).Pairwise ltZ
        rw [List.singleton_append]
        refine List.pairwise_cons.2 ⟨fun z hz => ?_, List.pairwise_cons.2 ⟨hpost, s4.2⟩⟩
        rcases List.mem_cons.1 hz with rfl | hz
        · exact c2
        · exact s4.1 z hz
      · intro a ha b hbb
        have hay := s3 a ha y List.mem_cons_self
        simp at hbb
        rcases hbb with rfl | rfl | hbb
        · exact hay
        · exact ltZ_trans hay c2
        · exact s3 a ha b (List.mem_cons_of_mem _ hbb)
theorem norm_l1 (c : List Int) (hcl : c.length ≤ 1000000) (hb : ∀ y ∈ c, y ≠ 0 ∧ -100000 ≤ y ∧ y ≤ 100000) (R : List Int × Bool) (hyes : (∃ y ∈ c, -y ∈ c) → R = ([], true)) (hno : (¬ ∃ y ∈ c, -y ∈ c) → R = (sortN c, false)) :
    ∀ (d i : Nat) (l : List Int), i + d = c.length → l.Pairwise ltZ → (∀ y, y ∈ l ↔ y ∈ c.take i) → l.length ≤ i → (∀ q, q < i → -(c.getD q 0) ∉ c) → Ev (fun k => tithebarnref16_Norm.l1 k c l i) R := by
  intro d
  induction d with
  | zero =>
    intro i l hi hs hm hll hq
    have hn : ¬ ∃ y ∈ c, -y ∈ c := by
      rintro ⟨y, h1, h2⟩
      obtain ⟨q, hq', rfl⟩ := List.getElem_of_mem h1
      have := hq q (by omega)
      rw [List.getD_eq_getElem?_getD, List.getElem?_eq_getElem hq'] at this
      exact this h2
    have e : l = sortN c := rising_eq hs (sortN_rising (fun y hy => (hb y hy).2)) (fun y => by rw [hm y, sortN_mem, List.take_of_length_le (by omega)])
    rw [hno hn, ← e]
    refine Ev.step (f := fun _ => some (l, false)) (fun k => ?_) (Ev.now _)
    simp only [tithebarnref16_Norm.l1]
    rw [if_neg (by omega)]
  | succ d ih =>
    intro i l hi hs hm hll hq
    have hin : c.getD i 0 ∈ c := getD_in 0 (by omega)
    obtain ⟨b0, b1, b2⟩ := hb _ hin
    have htake : ∀ y, y ∈ c.take (i + 1) ↔ y = c.getD i 0 ∨ y ∈ c.take i := by
      intro y
      rw [List.take_succ_eq_append_getElem (by omega)]
      have : c[i]'(by omega) = c.getD i 0 := by simp [show i < c.length by omega]
      rw [this]
      simp [or_comm]
    have hstep : ∀ k, tithebarnref16_Norm.l1 (k + 1) c l i = (tithebarnref16_Has.f k c (-(c.getD i 0))).bind fun t139 => (if t139 = true then (some (([] : List Int), true)) else ((tithebarnref16_Has.f k l (c.getD i 0)).bind fun t141 => (if t141 = true then (tithebarnref16_Norm.l1 k c l ((i + 1 : Nat) : Int)) else (tithebarnref16_Norm.l2 k c (l ++ [c.getD i 0]) i ((l.length : Nat) : Int))))) := by
      intro k
      simp only [tithebarnref16_Norm.l1]
      rw [if_pos (by omega), if_pos (by omega), rd_nat, wrap_id (by omega) (by omega), wrap_id (by omega) (by omega), if_pos (by omega)]
      simp only [Option.bind_some]
      have hll2 : ((l ++ [c.getD i 0]).length : Int) = (l.length : Int) + 1 := by simp
      have hw2 : wrap64 (((l ++ [c.getD i 0]).length : Int) - 1) = ((l.length : Nat) : Int) := by
        rw [hll2, wrap_id (by omega) (by omega)]
        omega
      rw [hw2]
      rfl
    refine Ev.step hstep (Ev.bind (has_ev c _ (by omega)) ?_)
    by_cases e : -(c.getD i 0) ∈ c
    · have : c.contains (-(c.getD i 0)) = true := by simpa using e
      rw [this, hyes ⟨_, hin, e⟩]
      exact Ev.ite_pos rfl (Ev.now _)
    · have : c.contains (-(c.getD i 0)) = false := by simpa using e
      rw [this]
      have hq2 : ∀ q, q < i + 1 → -(c.getD q 0) ∉ c := fun q hq' => by
        by_cases e' : q = i
        · rw [e']; exact e
        · exact hq q (by omega)
      refine Ev.ite_neg (by simp) (Ev.bind (has_ev l _ (by omega)) ?_)
      by_cases e2 : c.getD i 0 ∈ l
      · have : l.contains (c.getD i 0) = true := by simpa using e2
        rw [this]
        refine Ev.ite_pos rfl (ih (i + 1) l (by omega) hs (fun y => ?_) (by omega) hq2)
        rw [hm y, htake y]
        constructor
        · exact .inr
        · rintro (h | h)
          · rw [h]; exact (hm _).1 e2
          · exact h
      · have : l.contains (c.getD i 0) = false := by simpa using e2
        rw [this]
        refine Ev.ite_neg (by simp) (norm_l2 c i (by omega) (by omega) (c.getD i 0) b1 b2 R l.length l [] rfl (by simp; omega) (fun y hy => ?_) (by simpa using hs) (fun y hy => by simp at hy) (fun l' q1 q2 q3 => ?_))
        · have hy' : y ∈ l := by simpa using hy
          have hyc : y ∈ c := List.mem_of_mem_take ((hm y).1 hy')
          obtain ⟨_, a1, a2⟩ := hb y hyc
          exact ⟨a1, a2, fun h => e2 (by rw [← h]; exact hy')⟩
        · refine ih (i + 1) l' (by omega) q1 (fun y => ?_) (by simp at q3; omega) hq2
          rw [q2 y, htake y]
          simp only [List.append_nil]
          rw [hm y]
theorem norm_l0 (c : List Int) (hcl : c.length ≤ 1000000) (R : List Int × Bool) (hbad : allB c 100000 = false → R = ([], false)) (hgood : allB c 100000 = true → Ev (fun k => tithebarnref16_Norm.l1 k c [] ((0 : Nat) : Int)) R) :
    ∀ (d i : Nat), i + d = c.length → (∀ q, q < i → litB (c.getD q 0) 100000 = true) → Ev (fun k => tithebarnref16_Norm.l0 k c i) R := by
  intro d
  induction d with
  | zero =>
    intro i hi hq
    refine Ev.step (fun k => ?_) (hgood (all_getD 0 (fun q hq' => hq q (by omega))))
    simp only [tithebarnref16_Norm.l0]
    rw [if_neg (by omega)]
    rfl
  | succ d ih =>
    intro i hi hq
    cases hb : litB (c.getD i 0) 100000 with
    | false =>
      have hf : allB c 100000 = false := by
        unfold allB
        rw [List.all_eq_false]
        exact ⟨c.getD i 0, getD_in 0 (by omega), by rw [hb]; simp⟩
      rw [hbad hf]
      refine Ev.step (f := fun _ => some ([], false)) (fun k => ?_) (Ev.now _)
      simp only [tithebarnref16_Norm.l0]
      rw [if_pos (by omega), if_pos (by omega), rd_nat, lit_f, hb, Option.bind_some, if_neg (by simp)]
    | true =>
      refine Ev.step (fun k => ?_) (ih (i + 1) (by omega) (fun q hq' => by
        by_cases e : q = i
        · rw [e]; exact hb
        · exact hq q (by omega)))
      simp only [tithebarnref16_Norm.l0]
      rw [if_pos (by omega), if_pos (by omega), rd_nat, lit_f, hb, Option.bind_some, if_pos rfl, wrap_id (by omega) (by omega)]
      rfl
theorem refNorm_ev (c : List Int) (hcl : c.length ≤ 1000000) : Ev (fun k => tithebarnref16_Norm.f k c) (normL c) := by
  refine norm_l0 c hcl _ (fun h => by simp [normL, h]) (fun h => ?_) c.length 0 (by omega) (fun q hq => absurd hq (Nat.not_lt_zero _))
  have hb : ∀ y ∈ c, y ≠ 0 ∧ -100000 ≤ y ∧ y ≤ 100000 := fun y hy => by
    have h' := h
    unfold allB at h'
    rw [List.all_eq_true] at h'
    obtain ⟨q0, q1, q2, _⟩ := litB_bounds (h' y hy) (by omega) (by omega)
    exact ⟨q0, q1, q2⟩
  refine norm_l1 c hcl hb _ (fun he => ?_) (fun he => ?_) c.length 0 [] (by omega) (by simp) (fun y => by simp) (by simp) (fun q hq => absurd hq (Nat.not_lt_zero _))
  · have := (opp_iff hb).2 he
    simp [normL, h, this]
  · have : oppB (sortN c) = false := by
      cases e : oppB (sortN c) with
      | false => rfl
      | true => exact absurd ((opp_iff hb).1 e) he
    simp [normL, h, this]
theorem law_norm_l0 (own c : List Int) (hc : c.length ≤ 1000000000) (he : own = c) : ∀ (d i : Nat) (a : List Int), i + d = a.length → a.length ≤ 1000000000 → Ev (fun k => PCnf.tithebarnlaw16_CnfNorm.l0 k c own a i) true := by
  intro d
  induction d with
  | zero =>
    intro i a hi ha
    refine Ev.step (f := fun k => (tithebarnkit_SameInts.f k own c).bind fun t169 => (if t169 = true then ((tithebarnlaw16_works.f).bind fun t170 => (some t170)) else (some false))) (fun k => ?_) (Ev.bind (same_ev own c (by rw [he]; exact hc)) ?_)
    · simp only [PCnf.tithebarnlaw16_CnfNorm.l0]
      rw [if_neg (by omega)]
    · rw [decide_eq_true he]
      exact Ev.ite_pos rfl (Ev.now _)
  | succ d ih =>
    intro i a hi ha
    refine Ev.step (fun k => ?_) (ih (i + 1) (a.set i 7777) (by rw [List.length_set]; omega) (by rw [List.length_set]; exact ha))
    simp only [PCnf.tithebarnlaw16_CnfNorm.l0]
    rw [if_pos (by omega), if_pos (by omega), wrap_id (by omega) (by omega)]
    rfl
theorem CnfNorm_pure : ∀ (l0 : (List Int)), (l0.length ≤ maxLen ∧ ∀ y0 ∈ l0, (Lit.int .i64 y0).wf = true) → ∃ k, PCnf.tithebarnlaw16_CnfNorm.f k l0 = some true := by
  intro c _
  refine Ev.rounds (g := fun k => PCnf.tithebarnlaw16_CnfNorm.f k c) ?_
  by_cases h1 : (c.length : Int) > 200
  · exact Ev.ite_pos h1 (Ev.now _)
  · refine Ev.ite_neg h1 (Ev.ite_pos (by simp; omega) (Ev.some_bind ?_))
    have e1 : cnf_Norm.f ([] ++ c) = some (normL c) := by unfold cnf_Norm.f; rw [List.nil_append, if_pos (by omega)]
    have hnl : (normL c).1.length ≤ 1000000000 := by
      have := sortN_length c
      unfold normL
      split
      · split
        · simp
        · simp only; omega
      · simp
    refine Ev.obind e1 (Ev.bind (refNorm_ev c (by omega)) (Ev.ite_neg (by simp) (Ev.bind (same_ev _ _ hnl) ?_)))
    rw [decide_eq_true rfl]
    refine Ev.step (f := fun k => PCnf.tithebarnlaw16_CnfNorm.l0 k c ([] ++ c) (normL c).1 ((0 : Nat) : Int)) (fun k => by simp only [PCnf.tithebarnlaw16_CnfNorm.j0]; rfl) ?_
    exact law_norm_l0 ([] ++ c) c (by omega) (List.nil_append c) _ 0 _ (Nat.zero_add _) hnl
end Go.Proofs.Ytjghhdgebmoohaa
