/- Plain laws: RefuteCheck, RefuteTrim. -/
import Derived.Test.YtghecdmcghppnaaDoorRefI
import Derived.Test.YtghecdmcghppnaaDoorPCnfx0
import Derived.Test.YtghecdmcghppnaaDoorPCnfx11
import Derived.Test.YtghecdmcghppnaaDoorPCnfx13
import Derived.Test.YtghecdmcghppnaaDoorPCnfx2
namespace Go.Proofs.YtghecdmcghppnaaDoor
open Go.RowKit Go.Proofs.YtghecdmcghppnaaDoorW.PrintWords Go.Proofs.YtghecdmcghppnaaDoorW.PrintLast Go.Proofs.YtghecdmcghppnaaDoorW.PrintMore PCnf
set_option linter.unusedVariables false
set_option linter.unusedSimpArgs false
theorem follows_l0 (n : Int) (cl : List (List Int)) (h0 : 0 ≤ n) (h1 : n ≤ 100000) (hl : cl.length ≤ 1000000) (ht : total cl ≤ 1000000) (c : List Int) (hc : c.length ≤ 100000) : ∀ (d i : Nat), i + d = c.length → (∀ q, q < i → litB (c.getD q 0) n = true) →
    Ev (fun k => tithebarnref18_follows.l0 k c ((c.take i).map fun x => -x) i n cl) (allB c n && (unitB n cl (c.map fun x => -x)).2) := by
  intro d
  induction d with
  | zero =>
    intro i hi hq
    have hic : i = c.length := by omega
    subst hic
    have hall : allB c n = true := by
      unfold allB
      rw [List.all_eq_true]
      intro x hx
      obtain ⟨q, hq1, rfl⟩ := List.getElem_of_mem hx
      have := hq q hq1
      rwa [List.getD_eq_getElem?_getD, List.getElem?_eq_getElem hq1] at this
    rw [hall, Bool.true_and, List.take_length]
    refine Ev.step (fun k => by
      simp only [tithebarnref18_follows.l0]
      rw [if_neg (by omega)]) (Ev.bind (f := fun k (t : List Int × Bool) => some t.2) (refUnit_ev n cl (c.map fun x => -x) (by omega) (by omega) (by rw [List.length_map]; omega)) (Ev.now _))
  | succ d ih =>
    intro i hi hq
    have hlt : i < c.length := by omega
    cases hx : litB (c.getD i 0) n with
    | false =>
      have hall : allB c n = false := by
        rw [Bool.eq_false_iff]
        unfold allB
        rw [Ne, List.all_eq_true]
        intro h
        have := h (c.getD i 0) (by simp [hlt])
        rw [this] at hx
        cases hx
      rw [hall, Bool.false_and]
      refine Ev.step (f := fun _ => some false) (fun k => ?_) (Ev.now _)
      simp only [tithebarnref18_follows.l0]
      rw [if_pos (by omega), if_pos (by omega), rd_nat, wrap_id (x := -n) (by omega) (by omega)]
      rcases (litB_no h0 h1).1 hx with h | h | h
      · rw [if_pos h]
      · by_cases hz : c.getD i 0 = 0
        · rw [if_pos hz]
        · rw [if_neg hz, if_pos h]
      · by_cases hz : c.getD i 0 = 0
        · rw [if_pos hz]
        · by_cases hz2 : c.getD i 0 > n
          · rw [if_neg hz, if_pos hz2]
          · rw [if_neg hz, if_neg hz2, if_pos h]
    | true =>
      have hx2 : ¬ (c.getD i 0 = 0 ∨ c.getD i 0 > n ∨ c.getD i 0 < -n) := fun h => by
        rw [(litB_no h0 h1).2 h] at hx
        cases hx
      have h2 := ih (i + 1) (by omega) (fun q hq2 => by
        by_cases e : q = i
        · subst e; exact hx
        · exact hq q (by omega))
      have hs : ((c.take (i + 1)).map fun x => -x) = ((c.take i).map fun x => -x) ++ [-(c.getD i 0)] := by
        rw [List.take_succ_eq_append_getElem hlt, List.map_append]
        simp [hlt]
      rw [hs] at h2
      refine Ev.step (fun k => ?_) h2
      simp only [tithebarnref18_follows.l0]
      rw [if_pos (by omega), if_pos (by omega), rd_nat, wrap_id (x := -n) (by omega) (by omega), if_neg (by omega), if_neg (by omega), if_neg (by omega), if_pos (by simp; omega), wrap_id (by omega) (by omega), wrap_id (by omega) (by omega)]
      rfl
theorem follows_ev (n : Int) (cl : List (List Int)) (h0 : 0 ≤ n) (h1 : n ≤ 100000) (hl : cl.length ≤ 1000000) (ht : total cl ≤ 1000000) (c : List Int) (hc : c.length ≤ 100000) :
    Ev (fun k => tithebarnref18_follows.f k n cl c) (allB c n && (unitB n cl (c.map fun x => -x)).2) := follows_l0 n cl h0 h1 hl ht c hc c.length 0 (by omega) (fun q hq => absurd hq (Nat.not_lt_zero _))
theorem refCheck18_l0 (n : Int) (h0 : 0 ≤ n) (h1 : n ≤ 100000) (row : List (List Int)) (hl : row.length ≤ 1000) : ∀ (d i : Nat) (cl : List (List Int)), i + d = row.length → total cl + total (row.drop i) ≤ 100000 → cl.length + d ≤ 1000000 →
    Ev (fun k => tithebarnref18_Check.l0 k row i n cl) (match rowsR n (row.drop i) cl i with
      | some j => ((j : Int), 180)
      | none => if 0 < row.length ∧ (row.getD (row.length - 1) []).length = 0 then ((row.length : Int), 0) else ((row.length : Int), 180)) := by
  intro d
  induction d with
  | zero =>
    intro i cl hi ht hcl
    have hic : i = row.length := by omega
    subst hic
    rw [List.drop_length]
    simp only [rowsR]
    by_cases hpos : 0 < row.length
    · refine Ev.step (f := fun _ => some (if 0 < row.length ∧ (row.getD (row.length - 1) []).length = 0 then ((row.length : Int), 0) else ((row.length : Int), 180))) (fun k => ?_) (Ev.now _)
      simp only [tithebarnref18_Check.l0]
      rw [if_neg (by omega), if_neg (by omega), wrap_id (by omega) (by omega), if_pos (by omega), if_pos (by omega), show rd_L1 row ((row.length : Int) - 1) = row.getD (row.length - 1) [] from by
        unfold rd_L1
        congr 1
        omega]
      by_cases he : (row.getD (row.length - 1) []).length = 0
      · rw [if_neg (by omega), if_pos ⟨hpos, he⟩]
      · rw [if_pos (by omega), if_neg (fun h => he h.2)]
    · rw [if_neg (fun h => hpos h.1)]
      refine Ev.step (f := fun _ => some ((row.length : Int), 180)) (fun k => ?_) (Ev.now _)
      simp only [tithebarnref18_Check.l0]
      rw [if_neg (by omega), if_pos (by omega)]
  | succ d ih =>
    intro i cl hi ht hcl
    have hlt : i < row.length := by omega
    have hdr : row.drop i = row.getD i [] :: row.drop (i + 1) := by rw [List.drop_eq_getElem_cons hlt]; simp [hlt]
    rw [hdr] at ht ⊢
    have ht2 : total cl + ((row.getD i []).length + total (row.drop (i + 1))) ≤ 100000 := by simpa [total] using ht
    have hnext := ih (i + 1) (cl ++ [row.getD i []]) (by omega) (by rw [total_append]; simp [total] at ht2 ⊢; omega) (by simp; omega)
    have hf := follows_ev n cl h0 h1 (by omega) (by omega) (row.getD i []) (by omega)
    simp only [rowsR]
    refine Ev.step (fun k => by
      simp only [tithebarnref18_Check.l0]
      rw [if_pos (by omega), if_pos (by omega), rdL_nat]) (Ev.bind hf ?_)
    by_cases hh : allB (row.getD i []) n = true ∧ (unitB n cl ((row.getD i []).map fun x => -x)).2 = true
    · rw [if_pos hh]
      refine EvR.pos (by rw [hh.1, hh.2]; rfl) (EvR.pos (by omega) ?_)
      rw [wrap_id (by omega) (by omega), show ((i : Int) + 1) = ((i + 1 : Nat) : Int) by omega]
      exact hnext
    · rw [if_neg hh]
      exact EvR.neg (fun h => hh (by simpa using h)) (Ev.now _)
theorem refCheck18_ev (n : Int) (cl row : List (List Int)) (h : total cl + total row ≤ 100000) (h1 : cl.length ≤ 900000) (h2 : row.length ≤ 1000) : Ev (fun k => tithebarnref18_Check.f k n cl row) (checkR n cl row) := by
  unfold checkR
  refine Ev.congr (fun k => rfl) (Ev.bind (f := fun k t => if t = 0 then (if ([] : List (List Int)).length + cl.length < 5864062014805 then (tithebarnref18_Check.l0 k row 0 n (([] : List (List Int)) ++ cl)) else (none)) else (some (0, t))) (refCheck_ev n cl (by omega) (by omega)) ?_)
  by_cases hz : checkZ n cl = 0
  · have hb := checkZ_bounds hz
    rw [if_pos hz]
    refine EvR.pos hz (EvR.pos (by simp; omega) ?_)
    exact refCheck18_l0 n hb.1 hb.2.1 row h2 row.length 0 cl (by omega) (by simpa using h) (by omega)
  · rw [if_neg hz]
    exact EvR.neg hz (Ev.now _)
theorem RefuteCheck_pure : ∀ (a0_0 : Int) (l0_1 : (List (List Int))) (l1 : (List (List Int))), (Lit.int .i64 a0_0).wf = true → (l0_1.length ≤ maxLen ∧ ∀ y0 ∈ l0_1, (y0.length ≤ maxLen ∧ ∀ y1 ∈ y0, (Lit.int .i64 y1).wf = true)) → (l1.length ≤ maxLen ∧ ∀ y0 ∈ l1, (y0.length ≤ maxLen ∧ ∀ y1 ∈ y0, (Lit.int .i64 y1).wf = true)) → ∃ k, PCnf.tithebarnlaw18_RefuteCheck.f k a0_0 l0_1 l1 = some true := by
  intro n cl row hn hcl hrow
  have key : Ev (fun k => PCnf.tithebarnlaw18_RefuteCheck.f k n cl row) true := by
    have hw : tithebarnlaw18_works.f = some true := rfl
    obtain ⟨b1, e1, f1⟩ := few_ev n cl 80 (by omega) (by omega)
    obtain ⟨b2, e2, f2⟩ := few_ev 0 row 60 (by omega) (by omega)
    have hfew : Ev (fun k => tithebarnlaw18_few.f k n cl row) (b1 && b2) := by
      refine Ev.congr (fun k => rfl) (Ev.bind (f := fun k t => if t = true then ((tithebarnkit_Few.f k 0 row 60).bind fun t105 => (some t105)) else (some false)) e1 ?_)
      cases b1 with
      | true => exact EvR.pos rfl (Ev.bind (f := fun _ t => some t) e2 (by simpa using Ev.now b2))
      | false => exact EvR.neg (by decide) (Ev.now _)
    refine Ev.congr (fun k => rfl) (Ev.bind (f := fun k t181 => if t181 = true then ((refute_Check.f n cl row).bind fun bt183 => ((tithebarnlaw18_plain.f n cl).bind fun bt185 => ((tithebarnref18_Check.f k bt185.1 bt185.2 row).bind fun bt189 => (if bt183.1 = bt189.1 then (if bt183.2 = bt189.2 then ((tithebarnlaw18_works.f).bind fun t191 => (some t191)) else (some false)) else (some false))))) else ((tithebarnlaw18_works.f).bind fun t182 => (some t182))) hfew ?_)
    cases hb : (b1 && b2) with
    | false => exact EvR.neg (by decide) (EvR.const (by rw [hw]; rfl))
    | true =>
      have hb' : b1 = true ∧ b2 = true := by simpa using hb
      have g1 := f1 hb'.1
      have g2 := f2 hb'.2
      refine EvR.pos rfl (EvR.obind (a := checkR n cl row) (by unfold refute_Check.f; rw [if_pos ⟨by omega, by omega, by omega⟩]) (EvR.obind (a := (n, cl)) rfl (Ev.bind (refCheck18_ev n cl row (by omega) (by omega) (by omega)) ?_)))
      exact EvR.pos rfl (EvR.pos rfl (EvR.const (by rw [hw]; rfl)))
  obtain ⟨K, hK⟩ := key
  exact ⟨K, hK K (Nat.le_refl _)⟩
end Go.Proofs.YtghecdmcghppnaaDoor
