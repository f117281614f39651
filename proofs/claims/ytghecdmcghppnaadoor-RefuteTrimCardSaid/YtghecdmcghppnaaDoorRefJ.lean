/- Plain laws: RefuteCheck, RefuteTrim. -/
import Derived.Test.YtghecdmcghppnaaDoorRefI
import Derived.Test.YtghecdmcghppnaaDoorPCnfx14
import Derived.Test.YtghecdmcghppnaaDoorPCnfx0
import Derived.Test.YtghecdmcghppnaaDoorPCnfx3
import Derived.Test.YtghecdmcghppnaaDoorPCnfx11
import Derived.Test.YtghecdmcghppnaaDoorPCnfx17
namespace Go.Proofs.YtghecdmcghppnaaDoor
open Go.RowKit Go.Proofs.YtghecdmcghppnaaDoorW.PrintWords Go.Proofs.YtghecdmcghppnaaDoorW.PrintLast Go.Proofs.YtghecdmcghppnaaDoorW.PrintMore PCnf
set_option linter.unusedVariables false
set_option linter.unusedSimpArgs false
theorem follows_l0 (n : Int) (cl : List (List Int)) (h0 : 0 ≤ n) (h1 : n ≤ 100000) (hl : cl.length ≤ 1000000) (ht : total cl ≤ 1000000) (c : List Int) (hc : c.length ≤ 100000) : ∀ (d i : Nat), i + d = c.length → (∀ q, q < i → litB (c.getD q 0) n = true) →
    Ev (fun k => tithebarnref18_follows.l0 k c ((c.take i).map fun x => -x) i n cl) (allB c n && (unitB n cl (c.map fun x => -x)).2) := by
  intro d
  induction d with
  | zero =>
    intro i hi hq
    have hic : i = c.length := by omega
    subst hic
    have hall : allB c n = true := by
      unfold allB
      rw [List.all_eq_true]
      intro x hx
      obtain ⟨q, hq1, rfl⟩ := List.getElem_of_mem hx
      have := hq q hq1
      rwa [List.getD_eq_getElem?_getD, List.getElem?_eq_getElem hq1] at this
    rw [hall, Bool.true_and, List.take_length]
    refine Ev.step (fun k => by
      simp only [tithebarnref18_follows.l0]
      rw [if_neg (by omega)]) (Ev.bind (f := fun k (t : List Int × Bool) => some t.2) (refUnit_ev n cl (c.map fun x => -x) (by omega) (by omega) (by rw [List.length_map]; omega)) (Ev.now _))
  | succ d ih =>
    intro i hi hq
    have hlt : i < c.length := by omega
    cases hx : litB (c.getD i 0) n with
    | false =>
      have hall : allB c n = false := by
        rw [Bool.eq_false_iff]
        unfold allB
        rw [Ne, List.all_eq_true]
        intro h
        have := h (c.getD i 0) (by simp [hlt])
        rw [this] at hx
        cases hx
      rw [hall, Bool.false_and]
      refine Ev.step (f := fun _ => some false) (fun k => ?_) (Ev.now _)
      simp only [tithebarnref18_follows.l0]
      rw [if_pos (by omega), if_pos (by omega), rd_nat, wrap_id (x := -n) (by omega) (by omega)]
      rcases (litB_no h0 h1).1 hx with h | h | h
      · rw [if_pos h]
      · by_cases hz : c.getD i 0 = 0
        · rw [if_pos hz]
        · rw [if_neg hz, if_pos h]
      · by_cases hz : c.getD i 0 = 0
        · rw [if_pos hz]
        · by_cases hz2 : c.getD i 0 > n
          · rw [if_neg hz, if_pos hz2]
          · rw [if_neg hz, if_neg hz2, if_pos h]
    | true =>
      have hx2 : ¬ (c.getD i 0 = 0 ∨ c.getD i 0 > n ∨ c.getD i 0 < -n) := fun h => by
        rw [(litB_no h0 h1).2 h] at hx
        cases hx
      have h2 := ih (i + 1) (by omega) (fun q hq2 => by
        by_cases e : q = i
        · subst e; exact hx
        · exact hq q (by omega))
      have hs : ((c.take (i + 1)).map fun x => -x) = ((c.take i).map fun x => -x) ++ [-(c.getD i 0)] := by
        rw [List.take_succ_eq_append_getElem hlt, List.map_append]
        simp [hlt]
      rw [hs] at h2
      refine Ev.step (fun k => ?_) h2
      simp only [tithebarnref18_follows.l0]
      rw [if_pos (by omega), if_pos (by omega), rd_nat, wrap_id (x := -n) (by omega) (by omega), if_neg (by omega), if_neg (by omega), if_neg (by omega), if_pos (by simp; omega), wrap_id (by omega) (by omega), wrap_id (by omega) (by omega)]
      rfl
theorem follows_ev (n : Int) (cl : List (List Int)) (h0 : 0 ≤ n) (h1 : n ≤ 100000) (hl : cl.length ≤ 1000000) (ht : total cl ≤ 1000000) (c : List Int) (hc : c.length ≤ 100000) :
    Ev (fun k => tithebarnref18_follows.f k n cl c) (allB c n && (unitB n cl (c.map fun x => -x)).2) := follows_l0 n cl h0 h1 hl ht c hc c.length 0 (by omega) (fun q hq => absurd hq (Nat.not_lt_zero _))
theorem refCheck18_l0 (n : Int) (h0 : 0 ≤ n) (h1 : n ≤ 100000) (row : List (List Int)) (hl : row.length ≤ 1000) : ∀ (d i : Nat) (cl : List (List Int)), i + d = row.length → total cl + total (row.drop i) ≤ 100000 → cl.length + d ≤ 1000000 →
    Ev (fun k => tithebarnref18_Check.l0 k row i n cl) (match rowsR n (row.drop i) cl i with
      | some j => ((j : Int), 180)
      | none => if 0 < row.length ∧ (row.getD (row.length - 1) []).length = 0 then ((row.length : Int), 0) else ((row.length : Int), 180)) := by
  intro d
  induction d with
  | zero =>
    intro i cl hi ht hcl
    have hic : i = row.length := by omega
    subst hic
    rw [List.drop_length]
    simp only [rowsR]
    by_cases hpos : 0 < row.length
    · refine Ev.step (f := fun _ => some (if 0 < row.length ∧ (row.getD (row.length - 1) []).length = 0 then ((row.length : Int), 0) else ((row.length : Int), 180))) (fun k => ?_) (Ev.now _)
      simp only [tithebarnref18_Check.l0]
      rw [if_neg (by omega), if_neg (by omega), wrap_id (by omega) (by omega), if_pos (by omega), if_pos (by omega), show rd_L1 row ((row.length : Int) - 1) = row.getD (row.length - 1) [] from by
        unfold rd_L1
        congr 1
        omega]
      by_cases he : (row.getD (row.length - 1) []).length = 0
      · rw [if_neg (by omega), if_pos ⟨hpos, he⟩]
      · rw [if_pos (by omega), if_neg (fun h => he h.2)]
    · rw [if_neg (fun h => hpos h.1)]
      refine Ev.step (f := fun _ => some ((row.length : Int), 180)) (fun k => ?_) (Ev.now _)
      simp only [tithebarnref18_Check.l0]
      rw [if_neg (by omega), if_pos (by omega)]
  | succ d ih =>
    intro i cl hi ht hcl
    have hlt : i < row.length := by omega
    have hdr : row.drop i = row.getD i [] :: row.drop (i + 1) := by rw [List.drop_eq_getElem_cons hlt]; simp [hlt]
    rw [hdr] at ht ⊢
    have ht2 : total cl + ((row.getD i []).length + total (row.drop (i + 1))) ≤ 100000 := by simpa [total] using ht
    have hnext := ih (i + 1) (cl ++ [row.getD i []]) (by omega) (by rw [total_append]; simp [total] at ht2 ⊢; omega) (by simp; omega)
    have hf := follows_ev n cl h0 h1 (by omega) (by omega) (row.getD i []) (by omega)
    simp only [rowsR]
    refine Ev.step (fun k => by
      simp only [tithebarnref18_Check.l0]
      rw [if_pos (by omega), if_pos (by omega), rdL_nat]) (Ev.bind hf ?_)
    by_cases hh : allB (row.getD i []) n = true ∧ (unitB n cl ((row.getD i []).map fun x => -x)).2 = true
    · rw [if_pos hh]
      refine EvR.pos (by rw [hh.1, hh.2]; rfl) (EvR.pos (by omega) ?_)
      rw [wrap_id (by omega) (by omega), show ((i : Int) + 1) = ((i + 1 : Nat) : Int) by omega]
      exact hnext
    · rw [if_neg hh]
      exact EvR.neg (fun h => hh (by simpa using h)) (Ev.now _)
theorem refCheck18_ev (n : Int) (cl row : List (List Int)) (h : total cl + total row ≤ 100000) (h1 : cl.length ≤ 900000) (h2 : row.length ≤ 1000) : Ev (fun k => tithebarnref18_Check.f k n cl row) (checkR n cl row) := by
  unfold checkR
  refine Ev.congr (fun k => rfl) (Ev.bind (f := fun k t => if t = 0 then (if ([] : List (List Int)).length + cl.length < 5864062014805 then (tithebarnref18_Check.l0 k row 0 n (([] : List (List Int)) ++ cl)) else (none)) else (some (0, t))) (refCheck_ev n cl (by omega) (by omega)) ?_)
  by_cases hz : checkZ n cl = 0
  · have hb := checkZ_bounds hz
    rw [if_pos hz]
    refine EvR.pos hz (EvR.pos (by simp; omega) ?_)
    exact refCheck18_l0 n hb.1 hb.2.1 row h2 row.length 0 cl (by omega) (by simpa using h) (by omega)
  · rw [if_neg hz]
    exact EvR.neg hz (Ev.now _)
theorem refTrim18_l0 (n : Int) (cl : List (List Int)) (h1 : cl.length ≤ 100000) : ∀ (i : Nat) (row : List (List Int)), i ≤ row.length → total cl + total row ≤ 100000 → row.length ≤ 1000 →
    Ev (fun k => tithebarnref18_Trim.l0 k row ((i : Int) - 1) n cl) (trimL n cl i row, 0) := by
  intro i
  induction i with
  | zero =>
    intro row hi ht hl
    refine Ev.step (f := fun _ => some (row, 0)) (fun k => ?_) (Ev.now _)
    simp only [tithebarnref18_Trim.l0]
    rw [if_neg (by omega)]
  | succ i ih =>
    intro row hi ht hl
    have hlen : (row.take i ++ row.drop (i + 1)).length + 1 = row.length := by simp; omega
    have htot := total_less row i
    have hck := refCheck18_ev n cl (row.take i ++ row.drop (i + 1)) (by omega) (by omega) (by omega)
    refine Ev.step (fun k => by
      simp only [tithebarnref18_Trim.l0]
      rw [if_pos (by omega), if_pos (by omega), if_pos (by omega)]
      simp only [Option.bind_some]
      rw [if_pos (by simp; omega), wrap_id (by omega) (by omega), if_pos (by omega), if_pos (by omega)]
      rw [if_pos (by simp; omega), show (((i + 1 : Nat) : Int) - 1).toNat = i by omega, show (((i + 1 : Nat) : Int) - 1 + 1).toNat = i + 1 by omega, wrap_id (by omega) (by omega), List.nil_append]) (Ev.bind (f := fun k (t : Int × Int) => if t.2 = 0 then tithebarnref18_Trim.l0 k (row.take i ++ row.drop (i + 1)) (((i + 1 : Nat) : Int) - 1 - 1) n cl else tithebarnref18_Trim.l0 k row (((i + 1 : Nat) : Int) - 1 - 1) n cl) hck ?_)
    have e : ((i + 1 : Nat) : Int) - 1 - 1 = (i : Int) - 1 := by omega
    rw [e]
    unfold trimL
    by_cases hz : (checkR n cl (row.take i ++ row.drop (i + 1))).2 = 0
    · rw [if_pos hz]
      exact EvR.pos hz (ih _ (by omega) (by omega) (by omega))
    · rw [if_neg hz]
      exact EvR.neg hz (ih _ (by omega) ht hl)
theorem refTrim18_ev (n : Int) (cl row : List (List Int)) (h : total cl + total row ≤ 100000) (h1 : cl.length ≤ 100000) (h2 : row.length ≤ 1000) : Ev (fun k => tithebarnref18_Trim.f k n cl row) (trimR n cl row) := by
  unfold trimR
  refine Ev.congr (fun k => rfl) (Ev.bind (f := fun k (t : Int × Int) => if t.2 = 0 then (tithebarnref18_Trim.l0 k row (wrap64 ((row.length : Int) - 2)) n cl) else (some (([] : List (List Int)), t.2))) (refCheck18_ev n cl row h (by omega) (by omega)) ?_)
  by_cases hz : (checkR n cl row).2 = 0
  · rw [if_pos hz]
    refine EvR.pos hz ?_
    by_cases hr : row.length = 0
    · have : row = [] := List.length_eq_zero_iff.1 hr
      subst this
      unfold checkR at hz
      split at hz
      · simp [rowsR] at hz
      · rename_i hzz
        exact absurd hz hzz
    · rw [wrap_id (by omega) (by omega), show ((row.length : Int) - 2) = ((row.length - 1 : Nat) : Int) - 1 by omega]
      exact refTrim18_l0 n cl h1 (row.length - 1) row (by omega) h h2
  · rw [if_neg hz]
    exact EvR.neg hz (Ev.now _)
theorem sameRows_l0 (a b : List (List Int)) (he : a = b) (hl : a.length ≤ 1000000) (hc : ∀ c ∈ a, c.length ≤ 1000000) : ∀ (d i : Nat), i + d = a.length → Ev (fun k => tithebarnlaw18_same.l0 k a b i) true := by
  subst he
  intro d
  induction d with
  | zero =>
    intro i hi
    refine Ev.step (f := fun _ => some true) (fun k => ?_) (Ev.now _)
    simp only [tithebarnlaw18_same.l0]
    rw [if_neg (by omega)]
  | succ d ih =>
    intro i hi
    have hlt : i < a.length := by omega
    have hs := same_ev (a.getD i []) (a.getD i []) (by have := hc (a.getD i []) (by simp [hlt]); omega)
    rw [decide_eq_true rfl] at hs
    refine Ev.step (fun k => by
      simp only [tithebarnlaw18_same.l0]
      rw [if_pos (by omega), if_pos (by omega), if_pos (by omega), rdL_nat]) (Ev.bind hs (EvR.pos rfl ?_))
    rw [wrap_id (by omega) (by omega), show ((i : Int) + 1) = ((i + 1 : Nat) : Int) by omega]
    exact ih (i + 1) (by omega)
theorem sameRows_ev (a : List (List Int)) (hl : a.length ≤ 1000000) (hc : ∀ c ∈ a, c.length ≤ 1000000) : Ev (fun k => tithebarnlaw18_same.f k a a) true :=
  Ev.congr (fun k => by unfold tithebarnlaw18_same.f; rw [if_pos rfl]; rfl) (sameRows_l0 a a rfl hl hc a.length 0 (by omega))
theorem total_trimL (n : Int) (cl : List (List Int)) : ∀ (i : Nat) (row : List (List Int)), i ≤ row.length → total (trimL n cl i row) ≤ total row ∧ (trimL n cl i row).length ≤ row.length := by
  intro i
  induction i with
  | zero => intro row _; exact ⟨Nat.le_refl _, Nat.le_refl _⟩
  | succ i ih =>
    intro row hi
    unfold trimL
    split
    · have h1 := total_less row i
      have h2 := ih (row.take i ++ row.drop (i + 1)) (by simp; omega)
      have h3 : (row.take i ++ row.drop (i + 1)).length ≤ row.length := by simp; omega
      omega
    · exact ih row (by omega)
theorem trim_ends (row : List (List Int)) (s : ByteArray) (hp : (refute_Print.f row).map (·.1) = some s) : ∀ (d i : Nat) (a : List (List Int)), i + d = a.length → a.length ≤ 1000000 → (∀ c ∈ a, c.length ≤ 1000000) → Ev (fun k => PCnf.tithebarnlaw18_RefuteTrim.l0 k row s a i) true := by
  have hw : tithebarnlaw18_works.f = some true := rfl
  intro d
  induction d with
  | zero =>
    intro i a hi hl hc
    obtain ⟨⟨s', z⟩, h1, h2⟩ := Option.map_eq_some_iff.1 hp
    simp only at h2
    subst h2
    refine Ev.step (f := fun _ => some true) (fun k => ?_) (Ev.now _)
    simp only [PCnf.tithebarnlaw18_RefuteTrim.l0]
    rw [if_neg (by omega), h1]
    simp [hw]
  | succ d ih =>
    have inner : ∀ (e j : Nat) (i : Nat) (a : List (List Int)), i + (d + 1) = a.length → j + e = (a.getD i []).length → a.length ≤ 1000000 → (∀ c ∈ a, c.length ≤ 1000000) → Ev (fun k => PCnf.tithebarnlaw18_RefuteTrim.l1 k row s a i j) true := by
      intro e
      induction e with
      | zero =>
        intro j i a hi hj hl hc
        refine Ev.step (fun k => ?_) (ih (i + 1) a (by omega) hl hc)
        simp only [PCnf.tithebarnlaw18_RefuteTrim.l1]
        rw [if_pos (by omega), if_pos (by omega), rdL_nat, if_neg (by omega), wrap_id (by omega) (by omega)]
        rfl
      | succ e ihe =>
        intro j i a hi hj hl hc
        have hlt : i < a.length := by omega
        have hcl := hc (a.getD i []) (by simp [hlt])
        have h2 := ihe (j + 1) i (a.set i ((a.getD i []).set j 7777)) (by simp; omega) (by simp [hlt]; simp [hlt] at hj; omega) (by simpa using hl) (fun c hcm => by
          rcases List.mem_or_eq_of_mem_set hcm with h | h
          · exact hc c h
          · rw [h, List.length_set]; exact hcl)
        refine Ev.step (fun k => ?_) h2
        simp only [PCnf.tithebarnlaw18_RefuteTrim.l1]
        rw [if_pos (by omega), if_pos (by omega), rdL_nat, if_pos (by omega), if_pos (by omega), wrap_id (by omega) (by omega)]
        rfl
    intro i a hi hl hc
    refine Ev.step (fun k => ?_) (inner (a.getD i []).length 0 i a hi (by omega) hl hc)
    simp only [PCnf.tithebarnlaw18_RefuteTrim.l0]
    rw [if_pos (by omega)]
    rfl
theorem RefuteTrim_pure : ∀ (a0_0 : Int) (l0_1 : (List (List Int))) (l1 : (List (List Int))), (Lit.int .i64 a0_0).wf = true → (l0_1.length ≤ maxLen ∧ ∀ y0 ∈ l0_1, (y0.length ≤ maxLen ∧ ∀ y1 ∈ y0, (Lit.int .i64 y1).wf = true)) → (l1.length ≤ maxLen ∧ ∀ y0 ∈ l1, (y0.length ≤ maxLen ∧ ∀ y1 ∈ y0, (Lit.int .i64 y1).wf = true)) → ∃ k, PCnf.tithebarnlaw18_RefuteTrim.f k a0_0 l0_1 l1 = some true := by
  intro n cl row hn hcl hrow
  have key : Ev (fun k => PCnf.tithebarnlaw18_RefuteTrim.f k n cl row) true := by
    have hw : tithebarnlaw18_works.f = some true := rfl
    obtain ⟨b1, e1, f1⟩ := few_ev n cl 40 (by omega) (by omega)
    obtain ⟨b2, e2, f2⟩ := few_ev 0 row 30 (by omega) (by omega)
    have hno : Ev (fun k => PCnf.tithebarnlaw18_RefuteTrim.j0 k row true n cl) true := by
      refine Ev.step (f := fun _ => some true) (fun k => ?_) (Ev.now _)
      simp only [PCnf.tithebarnlaw18_RefuteTrim.j0, if_true, hw, Option.bind_some]
    refine Ev.congr (fun k => rfl) (Ev.bind (f := fun k t219 => if t219 = true then ((tithebarnkit_Few.f k 0 row 30).bind fun t220 => (PCnf.tithebarnlaw18_RefuteTrim.j0 k row (!t220) n cl)) else (PCnf.tithebarnlaw18_RefuteTrim.j0 k row true n cl)) e1 ?_)
    cases hb1 : b1 with
    | false => exact EvR.neg (by decide) hno
    | true =>
      refine EvR.pos rfl (Ev.bind e2 ?_)
      cases hb2 : b2 with
      | false => exact hno
      | true =>
        have g1 := f1 hb1
        have g2 := f2 hb2
        have hpr : refute_Print.f row = some (⟨(if allR row then rowsT row else []).toArray⟩, if allR row then 0 else 2) := by unfold refute_Print.f; rw [if_pos ⟨by omega, by omega⟩]
        have htr : refute_Trim.f n cl row = some (trimR n cl row) := by unfold refute_Trim.f; rw [if_pos ⟨by omega, by omega, by omega⟩]
        have hlt : (trimR n cl row).1.length ≤ 1000000 ∧ ∀ c ∈ (trimR n cl row).1, c.length ≤ 1000000 := by
          unfold trimR
          split
          · have h3 := total_trimL n cl (row.length - 1) row (by omega)
            refine ⟨by simp only []; omega, fun c hc => ?_⟩
            have := total_mem hc
            simp only [] at this
            omega
          · exact ⟨by simp, fun c hc => by simp at hc⟩
        refine Ev.step (fun k => by
          simp only [PCnf.tithebarnlaw18_RefuteTrim.j0, Bool.not_true, Bool.false_eq_true, if_false, hpr, htr, Option.bind_some, tithebarnlaw18_plain.f]
          rfl) (Ev.bind (refTrim18_ev n cl row (by omega) (by omega) (by omega)) ?_)
        refine EvR.pos rfl (Ev.bind (sameRows_ev _ hlt.1 hlt.2) ?_)
        refine Ev.step (fun k => by
          simp only [PCnf.tithebarnlaw18_RefuteTrim.j1, Bool.not_true, Bool.false_eq_true, if_false]
          rfl) ?_
        exact trim_ends row _ (by rw [hpr]; rfl) _ 0 _ (Nat.zero_add _) hlt.1 hlt.2
  obtain ⟨K, hK⟩ := key
  exact ⟨K, hK K (Nat.le_refl _)⟩
end Go.Proofs.YtghecdmcghppnaaDoor
