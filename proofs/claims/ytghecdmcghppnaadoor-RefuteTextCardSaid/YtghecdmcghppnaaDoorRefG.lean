/- refute.Check and refute.Trim as functions of lists; what the printed texts of them come to. -/
import Derived.Test.YtghecdmcghppnaaDoorPRtmx6
import Derived.Test.YtghecdmcghppnaaDoorRefE
namespace Go.Proofs.YtghecdmcghppnaaDoor
open Go.RowKit Go.Proofs.YtghecdmcghppnaaDoorW.PrintWords Go.Proofs.YtghecdmcghppnaaDoorW.PrintLast Go.Proofs.YtghecdmcghppnaaDoorW.PrintMore
set_option linter.unusedVariables false
set_option linter.unusedSimpArgs false
theorem wrapR {x : Int} (h1 : -9223372036854775808 ≤ x) (h2 : x ≤ 9223372036854775807) : wrap64 x = x := by unfold wrap64; omega
theorem EvR.pos {α : Type} {c : Prop} [Decidable c] {f g : Nat → Option α} {r : α} (h : c) (k : Ev f r) : Ev (fun n => if c then f n else g n) r := Ev.congr (fun n => if_pos h) k
theorem EvR.neg {α : Type} {c : Prop} [Decidable c] {f g : Nat → Option α} {r : α} (h : ¬c) (k : Ev g r) : Ev (fun n => if c then f n else g n) r := Ev.congr (fun n => if_neg h) k
theorem EvR.obind {α β : Type} {o : Option α} {a : α} {f : Nat → α → Option β} {r : β} (h : o = some a) (k : Ev (fun n => f n a) r) : Ev (fun n => o.bind (f n)) r := by
  subst h; exact Ev.congr (fun n => rfl) k
/-- The first clause of a row that doesn't follow. -/
def rowsR (n : Int) : List (List Int) → List (List Int) → Nat → Option Nat
  | [], _, _ => none
  | c :: r, cl, i => if allB c n = true ∧ (unitB n cl (c.map fun x => -x)).2 = true then rowsR n r (cl ++ [c]) (i + 1) else some i
def checkR (n : Int) (cl row : List (List Int)) : Int × Int :=
  if checkZ n cl = 0 then (match rowsR n row cl 0 with
    | some i => ((i : Int), 180)
    | none => if 0 < row.length ∧ (row.getD (row.length - 1) []).length = 0 then ((row.length : Int), 0) else ((row.length : Int), 180))
  else (0, checkZ n cl)
def trimL (n : Int) (cl : List (List Int)) : Nat → List (List Int) → List (List Int)
  | 0, row => row
  | i + 1, row => if (checkR n cl (row.take i ++ row.drop (i + 1))).2 = 0 then trimL n cl i (row.take i ++ row.drop (i + 1)) else trimL n cl i row
def trimR (n : Int) (cl row : List (List Int)) : List (List Int) × Int :=
  if (checkR n cl row).2 = 0 then (trimL n cl (row.length - 1) row, 0) else ([], (checkR n cl row).2)
theorem litB_no {x n : Int} (h0 : 0 ≤ n) (h1 : n ≤ 100000) : litB x n = false ↔ x = 0 ∨ x > n ∨ x < -n := by
  unfold litB
  rw [wrapR (by omega) (by omega)]
  simp only [Bool.and_eq_false_iff, decide_eq_false_iff_not]
  omega
theorem checkZ_bounds {n : Int} {l : List (List Int)} (h : checkZ n l = 0) : 0 ≤ n ∧ n ≤ 100000 ∧ total l ≤ 1000000 := by
  unfold checkZ at h
  split at h
  · cases h
  · split at h
    · cases h
    · split at h
      · cases h
      · omega
theorem opp_l0 (n : Int) (cl : List (List Int)) (h0 : 0 ≤ n) (h1 : n ≤ 100000) (c : List Int) (hc : c.length ≤ 1000000) : ∀ (d i : Nat) (a : List Int), i + d = c.length → a = (c.take i).map (fun x => -x) ++ List.replicate d 0 → (∀ q, q < i → litB (c.getD q 0) n = true) →
    Ev (fun k => PRtm.refute_opposites.l0 k a c (c.length : Int) i n cl) (if allB c n = true then (c.map (fun x => -x), true) else ([], false)) := by
  intro d
  induction d with
  | zero =>
    intro i a hi ha hq
    have hic : i = c.length := by omega
    subst hic
    have hall : allB c n = true := by
      unfold allB
      rw [List.all_eq_true]
      intro x hx
      obtain ⟨q, hq1, rfl⟩ := List.getElem_of_mem hx
      have := hq q hq1
      rwa [List.getD_eq_getElem?_getD, List.getElem?_eq_getElem hq1] at this
    rw [if_pos hall]
    refine Ev.step (f := fun _ => some (a, true)) (fun k => ?_) ?_
    · simp only [PRtm.refute_opposites.l0]
      rw [if_neg (by omega)]
    · rw [ha, List.take_length]
      simp only [List.replicate_zero, List.append_nil]
      exact Ev.now _
  | succ d ih =>
    intro i a hi ha hq
    have hlt : i < c.length := by omega
    have hal : a.length = c.length := by rw [ha]; simp; omega
    cases hx : litB (c.getD i 0) n with
    | false =>
      have hall : ¬ allB c n = true := by
        unfold allB
        rw [List.all_eq_true]
        intro h
        have := h (c.getD i 0) (by simp [hlt])
        rw [this] at hx
        cases hx
      rw [if_neg hall]
      refine Ev.step (f := fun _ => some (([] : List Int), false)) (fun k => ?_) (Ev.now _)
      simp only [PRtm.refute_opposites.l0]
      rw [if_pos (by omega), if_pos (by omega), if_pos (by omega), show rd c (i : Int) = c.getD i 0 from rfl, wrapR (x := -n) (by omega) (by omega)]
      rcases (litB_no h0 h1).1 hx with h | h | h
      · rw [if_pos h]
      · by_cases hz : c.getD i 0 = 0
        · rw [if_pos hz]
        · rw [if_neg hz, if_pos h]
      · by_cases hz : c.getD i 0 = 0
        · rw [if_pos hz]
        · by_cases hz2 : c.getD i 0 > n
          · rw [if_neg hz, if_pos hz2]
          · rw [if_neg hz, if_neg hz2, if_pos h]
    | true =>
      have hx2 : ¬ (c.getD i 0 = 0 ∨ c.getD i 0 > n ∨ c.getD i 0 < -n) := fun h => by
        rw [(litB_no h0 h1).2 h] at hx
        cases hx
      have hset : a.set i (-(c.getD i 0)) = (c.take (i + 1)).map (fun x => -x) ++ List.replicate d 0 := by
        rw [ha, List.replicate_succ, List.set_append_right _ _ (by simp; omega), List.take_succ_eq_append_getElem hlt, List.map_append, List.append_assoc]
        congr 1
        simp [hlt, Nat.min_eq_left (Nat.le_of_lt hlt)]
      have h2 := ih (i + 1) (a.set i (-(c.getD i 0))) (by omega) hset (fun q hq2 => by
        by_cases e : q = i
        · subst e; exact hx
        · exact hq q (by omega))
      refine Ev.step (fun k => ?_) h2
      simp only [PRtm.refute_opposites.l0]
      rw [if_pos (by omega), if_pos (by omega), if_pos (by omega), show rd c (i : Int) = c.getD i 0 from rfl, wrapR (x := -n) (by omega) (by omega), if_neg (by omega), if_neg (by omega), if_neg (by omega), if_pos (by omega), wrapR (by omega) (by omega), wrapR (by omega) (by omega)]
      rfl
theorem opp_ev (n : Int) (cl : List (List Int)) (h0 : 0 ≤ n) (h1 : n ≤ 100000) (c : List Int) (hc : c.length ≤ 1000000) : Ev (fun k => PRtm.refute_opposites.f k n cl c) (if allB c n = true then (c.map (fun x => -x), true) else ([], false)) := by
  refine Ev.congr (fun k => ?_) (opp_l0 n cl h0 h1 c hc c.length 0 (List.replicate c.length 0) (by omega) (by simp) (fun q hq => absurd hq (Nat.not_lt_zero _)))
  unfold PRtm.refute_opposites.f
  rw [if_pos (by omega), if_pos (by omega)]
  simp
theorem unit_some {n : Int} {cl : List (List Int)} {c : List Int} (h : total cl ≤ 1000000) (hc : c.length ≤ 1000000) : cnf_Unit.f n cl c = some (unitB n cl c) := by
  unfold cnf_Unit.f
  rw [if_pos ⟨by omega, by omega⟩]
theorem total_append (a b : List (List Int)) : total (a ++ b) = total a + total b := by simp [total]
theorem check_l0 (n : Int) (h0 : 0 ≤ n) (h1 : n ≤ 100000) (row : List (List Int)) (hl : row.length ≤ 1000000) : ∀ (d i : Nat) (cl : List (List Int)), i + d = row.length → total cl + total (row.drop i) ≤ 1000000 → cl.length + d ≤ 10000000 →
    Ev (fun k => PRtm.refute_Check.l0 k row row (row.length : Int) i n cl) (match rowsR n (row.drop i) cl i with
      | some j => ((j : Int), 180)
      | none => if 0 < row.length ∧ (row.getD (row.length - 1) []).length = 0 then ((row.length : Int), 0) else ((row.length : Int), 180)) := by
  intro d
  induction d with
  | zero =>
    intro i cl hi ht hcl
    have hic : i = row.length := by omega
    subst hic
    rw [List.drop_length]
    simp only [rowsR]
    by_cases hpos : 0 < row.length
    · refine Ev.step (f := fun _ => some (if 0 < row.length ∧ (row.getD (row.length - 1) []).length = 0 then ((row.length : Int), 0) else ((row.length : Int), 180))) (fun k => ?_) (Ev.now _)
      simp only [PRtm.refute_Check.l0]
      rw [if_neg (by omega), if_pos (by omega), wrapR (by omega) (by omega), if_pos (by omega), if_pos (by omega), show PRtm.rd_L2 row ((row.length : Int) - 1) = row.getD (row.length - 1) [] from by
        unfold PRtm.rd_L2
        congr 1
        omega]
      by_cases he : (row.getD (row.length - 1) []).length = 0
      · rw [if_pos (by omega), if_pos ⟨hpos, he⟩]
      · rw [if_neg (by omega), if_neg (fun h => he h.2)]
    · rw [if_neg (fun h => hpos h.1)]
      refine Ev.step (f := fun _ => some ((row.length : Int), 180)) (fun k => ?_) (Ev.now _)
      simp only [PRtm.refute_Check.l0]
      rw [if_neg (by omega), if_neg (by omega)]
  | succ d ih =>
    intro i cl hi ht hcl
    have hlt : i < row.length := by omega
    have hdr : row.drop i = row.getD i [] :: row.drop (i + 1) := by rw [List.drop_eq_getElem_cons hlt]; simp [hlt]
    rw [hdr] at ht ⊢
    have ht2 : total cl + ((row.getD i []).length + total (row.drop (i + 1))) ≤ 1000000 := by simpa [total] using ht
    have hnext := ih (i + 1) (cl ++ [row.getD i []]) (by omega) (by rw [total_append]; simp [total] at ht2 ⊢; omega) (by simp; omega)
    have hop := opp_ev n cl h0 h1 (row.getD i []) (by omega)
    simp only [rowsR]
    have hrd : PRtm.rd_L2 row (i : Int) = row.getD i [] := rfl
    refine Ev.step (fun k => by
      simp only [PRtm.refute_Check.l0]
      rw [if_pos (by omega), if_pos (by omega), if_pos (by omega), hrd]) (Ev.bind hop ?_)
    by_cases ha : allB (row.getD i []) n = true
    · rw [if_pos ha]
      have hu := unit_some (n := n) (cl := cl) (c := (row.getD i []).map fun x => -x) (by omega) (by rw [List.length_map]; omega)
      refine EvR.pos (by rfl) (EvR.obind hu ?_)
      cases hc : (unitB n cl ((row.getD i []).map fun x => -x)).2 with
      | true =>
        rw [if_pos ⟨ha, rfl⟩]
        refine EvR.pos rfl (EvR.pos (by omega) ?_)
        rw [wrapR (by omega) (by omega), show ((i : Int) + 1) = ((i + 1 : Nat) : Int) by omega]
        exact hnext
      | false =>
        rw [if_neg (fun h => by cases h.2)]
        exact EvR.neg (by decide) (Ev.now _)
    · rw [if_neg ha, if_neg (fun h => ha h.1)]
      exact EvR.neg (by decide) (Ev.now _)
theorem check_ev (n : Int) (cl row : List (List Int)) (h : total cl + total row ≤ 1000000) (h1 : cl.length ≤ 1000000) (h2 : row.length ≤ 1000000) : Ev (fun k => PRtm.refute_Check.f k n cl row) (checkR n cl row) := by
  have hc : cnf_Check.f n cl = some (checkZ n cl) := by unfold cnf_Check.f; rw [if_pos (by omega)]
  unfold checkR
  refine Ev.congr (fun k => rfl) (EvR.obind (f := fun k t => if t = 0 then ((slices_Clone_int_int_20.f cl).bind fun t113 => (PRtm.refute_Check.l0 k row row (row.length : Int) 0 n t113)) else (some (0, t))) hc ?_)
  by_cases hz : checkZ n cl = 0
  · have hb := checkZ_bounds hz
    rw [if_pos hz]
    refine EvR.pos hz (EvR.obind (a := cl) (by unfold slices_Clone_int_int_20.f; rw [if_pos (by omega)]) ?_)
    exact check_l0 n hb.1 hb.2.1 row h2 row.length 0 cl (by omega) (by simpa using h) (by omega)
  · rw [if_neg hz]
    exact EvR.neg hz (Ev.now _)
theorem copied_l0 (l : List (List Int)) (hl : l.length ≤ 1000000) (hc : ∀ c ∈ l, c.length ≤ 1000000) : ∀ (d i : Nat) (a : List (List Int)), i + d = l.length → a = l.take i ++ List.replicate d [] →
    Ev (fun k => PRtm.refute_copied.l0 k a l (l.length : Int) i) l := by
  intro d
  induction d with
  | zero =>
    intro i a hi ha
    have hic : i = l.length := by omega
    subst hic
    refine Ev.step (f := fun _ => some a) (fun k => ?_) ?_
    · simp only [PRtm.refute_copied.l0]
      rw [if_neg (by omega)]
    · rw [ha, List.take_length]
      simp only [List.replicate_zero, List.append_nil]
      exact Ev.now _
  | succ d ih =>
    intro i a hi ha
    have hlt : i < l.length := by omega
    have hal : a.length = l.length := by rw [ha]; simp; omega
    have hset : a.set i (l.getD i []) = l.take (i + 1) ++ List.replicate d [] := by
      rw [ha, List.replicate_succ, List.set_append_right _ _ (by simp; omega), List.take_succ_eq_append_getElem hlt, List.append_assoc]
      congr 1
      simp [hlt, Nat.min_eq_left (Nat.le_of_lt hlt)]
    have hcl : slices_Clone_int_int_51.f (l.getD i []) = some (l.getD i []) := by
      unfold slices_Clone_int_int_51.f
      rw [if_pos (by have := hc (l.getD i []) (by simp [hlt]); omega)]
    refine Ev.step (fun k => ?_) (ih (i + 1) (a.set i (l.getD i [])) (by omega) hset)
    simp only [PRtm.refute_copied.l0]
    rw [if_pos (by omega), if_pos (by omega), if_pos (by omega), show PRtm.rd_L2 l (i : Int) = l.getD i [] from rfl, hcl]
    simp only [Option.bind_some]
    rw [if_pos (by omega), wrapR (by omega) (by omega)]
    rfl
theorem copied_ev (l : List (List Int)) (hl : l.length ≤ 1000000) (hc : ∀ c ∈ l, c.length ≤ 1000000) : Ev (fun k => PRtm.refute_copied.f k l) l := by
  refine Ev.congr (fun k => ?_) (copied_l0 l hl hc l.length 0 (List.replicate l.length []) (by omega) (by simp))
  unfold PRtm.refute_copied.f
  rw [if_pos (by omega), if_pos (by omega)]
  simp
theorem total_mem {l : List (List Int)} {c : List Int} (h : c ∈ l) : c.length ≤ total l := by
  induction l with
  | nil => cases h
  | cons a l ih =>
    have e : total (a :: l) = a.length + total l := by simp [total]
    rcases List.mem_cons.1 h with h | h
    · rw [e, h]; omega
    · have := ih h; omega
theorem total_less (row : List (List Int)) (i : Nat) : total (row.take i ++ row.drop (i + 1)) ≤ total row := by
  have h1 : total row = total (row.take i) + total (row.drop i) := by rw [← total_append, List.take_append_drop]
  have h2 : total (row.drop i) = total ((row.drop i).take 1) + total (row.drop (i + 1)) := by
    rw [show row.drop (i + 1) = (row.drop i).drop 1 by rw [List.drop_drop], ← total_append, List.take_append_drop]
  rw [total_append]
  omega
theorem trim_l0 (n : Int) (cl : List (List Int)) (h1 : cl.length ≤ 1000000) : ∀ (i : Nat) (row : List (List Int)), i ≤ row.length → total cl + total row ≤ 1000000 → row.length ≤ 1000 →
    Ev (fun k => PRtm.refute_Trim.l0 k row ((i : Int) - 1) n cl) (trimL n cl i row, 0) := by
  intro i
  induction i with
  | zero =>
    intro row hi ht hl
    refine Ev.step (fun k => by
      simp only [PRtm.refute_Trim.l0]
      rw [if_neg (by omega)]) (Ev.bind (copied_ev row (by omega) (fun c hc => by have := total_mem hc; omega)) (Ev.now _))
  | succ i ih =>
    intro row hi ht hl
    have hlen : (row.take i ++ row.drop (i + 1)).length + 1 = row.length := by simp; omega
    have htot := total_less row i
    have hcat : slices_Concat_int_int.f [row.take i, row.drop (i + 1)] = some (row.take i ++ row.drop (i + 1)) := by
      unfold slices_Concat_int_int.f
      rw [if_pos ⟨by show 2 ≤ 1000; omega, by simp [rowsLen]; omega⟩]
      simp
    have hck := check_ev n cl (row.take i ++ row.drop (i + 1)) (by omega) h1 (by omega)
    refine Ev.step (fun k => by
      simp only [PRtm.refute_Trim.l0]
      rw [if_pos (by omega), if_pos (by omega), if_pos (by omega), wrapR (by omega) (by omega), if_pos (by omega), if_pos (by omega), show (((i + 1 : Nat) : Int) - 1).toNat = i by omega, show (((i + 1 : Nat) : Int) - 1 + 1).toNat = i + 1 by omega, hcat, wrapR (by omega) (by omega)]
      simp only [Option.bind_some]) (Ev.bind (f := fun k (t : Int × Int) => if t.2 = 0 then PRtm.refute_Trim.l0 k (row.take i ++ row.drop (i + 1)) (((i + 1 : Nat) : Int) - 1 - 1) n cl else PRtm.refute_Trim.l0 k row (((i + 1 : Nat) : Int) - 1 - 1) n cl) hck ?_)
    have e : ((i + 1 : Nat) : Int) - 1 - 1 = (i : Int) - 1 := by omega
    rw [e]
    unfold trimL
    by_cases hz : (checkR n cl (row.take i ++ row.drop (i + 1))).2 = 0
    · rw [if_pos hz]
      exact EvR.pos hz (ih _ (by omega) (by omega) (by omega))
    · rw [if_neg hz]
      exact EvR.neg hz (ih _ (by omega) ht hl)
theorem trim_ev (n : Int) (cl row : List (List Int)) (h : total cl + total row ≤ 1000000) (h1 : cl.length ≤ 1000000) (h2 : row.length ≤ 1000) : Ev (fun k => PRtm.refute_Trim.f k n cl row) (trimR n cl row) := by
  unfold trimR
  refine Ev.congr (fun k => rfl) (Ev.bind (f := fun k (t : Int × Int) => if t.2 = 0 then (PRtm.refute_Trim.l0 k row (wrap64 ((row.length : Int) - 2)) n cl) else (some (([] : List (List Int)), t.2))) (check_ev n cl row h h1 (by omega)) ?_)
  by_cases hz : (checkR n cl row).2 = 0
  · rw [if_pos hz]
    refine EvR.pos hz ?_
    by_cases hr : row.length = 0
    · have : row = [] := List.length_eq_zero_iff.1 hr
      subst this
      unfold checkR at hz
      split at hz
      · simp [rowsR] at hz
      · rename_i hzz
        exact absurd hz hzz
    · rw [wrapR (by omega) (by omega), show ((row.length : Int) - 2) = ((row.length - 1 : Nat) : Int) - 1 by omega]
      exact trim_l0 n cl h1 (row.length - 1) row (by omega) h h2
  · rw [if_neg hz]
    exact EvR.neg hz (Ev.now _)
def refute_Check.f (n : Int) (cl row : List (List Int)) : Option (Int × Int) := if total cl + total row ≤ 1000000 ∧ cl.length ≤ 1000000 ∧ row.length ≤ 1000000 then some (checkR n cl row) else none
theorem refute_Check.calls (a0_0 : Int) (A0_1 : Option Addr) (c0_1 : Nat) (l0_1 : List (List Int)) (A1 : Option Addr) (c1 : Nat) (l1 : List (List Int)) (r1 r2 : Int) (w : World) (hr0_1 : Kd.C (Kd.slice 3 (Kd.int .i64)) w A0_1 l0_1.length l0_1) (hc0_1 : l0_1.length ≤ c0_1) (hr1 : Kd.C (Kd.slice 3 (Kd.int .i64)) w A1 l1.length l1) (hc1 : l1.length ≤ c1) (h : refute_Check.f a0_0 l0_1 l1 = some (r1, r2)) :
    Calls Tryd.prog 8 #[.agg #[.int .i64 a0_0, .slice A0_1 l0_1.length c0_1], .slice A1 l1.length c1] w fun e w' => e = .returned (.tuple #[.int .i64 r1, .int .i64 r2]) ∧ Below w.heap.size w w' := by
  unfold refute_Check.f at h
  split at h
  · rename_i hh
    have e := Option.some.inj h
    obtain ⟨k, hk⟩ := check_ev a0_0 l0_1 l1 hh.1 hh.2.1 hh.2.2
    exact PRtm.refute_Check.calls k a0_0 _ A0_1 c0_1 l0_1 _ A1 c1 l1 r1 r2 w (V_of_C hr0_1 hc0_1 _) (V_of_C hr1 hc1 _) ((hk k (Nat.le_refl _)).trans (by rw [e]))
  · cases h
def refute_Trim.f (n : Int) (cl row : List (List Int)) : Option (List (List Int) × Int) := if total cl + total row ≤ 1000000 ∧ cl.length ≤ 1000000 ∧ row.length ≤ 1000 then some (trimR n cl row) else none
theorem refute_Trim.calls (a0_0 : Int) (A0_1 : Option Addr) (c0_1 : Nat) (l0_1 : List (List Int)) (A1 : Option Addr) (c1 : Nat) (l1 : List (List Int)) (r1 : List (List Int)) (r2 : Int) (w : World) (hr0_1 : Kd.C (Kd.slice 3 (Kd.int .i64)) w A0_1 l0_1.length l0_1) (hc0_1 : l0_1.length ≤ c0_1) (hr1 : Kd.C (Kd.slice 3 (Kd.int .i64)) w A1 l1.length l1) (hc1 : l1.length ≤ c1) (h : refute_Trim.f a0_0 l0_1 l1 = some (r1, r2)) :
    Calls Tryd.prog 13 #[.agg #[.int .i64 a0_0, .slice A0_1 l0_1.length c0_1], .slice A1 l1.length c1] w fun e w' => ∃ v0_ : Value, e = .returned (.tuple #[v0_, .int .i64 r2]) ∧ Kd.S (Kd.slice 3 (Kd.int .i64)) 40 w' w.heap.size (fun _ => True) v0_ r1 ∧ Below w.heap.size w w' := by
  unfold refute_Trim.f at h
  split at h
  · rename_i hh
    have e := Option.some.inj h
    obtain ⟨k, hk⟩ := trim_ev a0_0 l0_1 l1 hh.1 hh.2.1 hh.2.2
    exact PRtm.refute_Trim.calls k a0_0 A0_1 c0_1 l0_1 (fun _ => True) A1 c1 l1 r1 r2 w hr0_1 hc0_1 (V_of_C hr1 hc1 _) ((hk k (Nat.le_refl _)).trans (by rw [e]))
  · cases h
def refute_Print.f (l : List (List Int)) : Option (ByteArray × Int) := if total l ≤ 1000000 ∧ l.length ≤ 1000000 then some (⟨(if allR l then rowsT l else []).toArray⟩, if allR l then 0 else 2) else none
theorem refute_Print.calls (A0 : Option Addr) (c0 : Nat) (l0 : List (List Int)) (r1 : ByteArray) (r2 : Int) (w : World) (hr0 : Kd.C (Kd.slice 3 (Kd.int .i64)) w A0 l0.length l0) (hc0 : l0.length ≤ c0) (hT : VTabs w) (h : refute_Print.f l0 = some (r1, r2)) :
    Calls Tryd.prog 12 #[.slice A0 l0.length c0] w fun e w' => e = .returned (.tuple #[.string r1, .int .i64 r2]) ∧ Below w.heap.size w w' := by
  unfold refute_Print.f at h
  split at h
  · rename_i hh
    have e := Option.some.inj h
    have e1 := congrArg Prod.fst e
    have e2 := congrArg Prod.snd e
    simp only at e1 e2
    subst e1
    subst e2
    exact Print_any A0 c0 l0 w hr0 hT hh.1 hh.2
  · cases h
end Go.Proofs.YtghecdmcghppnaaDoor
