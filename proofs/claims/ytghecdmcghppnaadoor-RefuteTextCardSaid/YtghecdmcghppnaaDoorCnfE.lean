/- cnf.Unit: what it answers, as a function of lists. -/
import Derived.Test.YtghecdmcghppnaaDoorCnfD
import Derived.ScopeJumps
import Derived.WalkMore
import Derived.OwnWalk
import Derived.Outline
namespace Go.Proofs.YtghecdmcghppnaaDoor
open Go.RowKit Go.Proofs.YtghecdmcghppnaaDoorW.PrintWords Go.Proofs.YtghecdmcghppnaaDoorW.PrintMore
set_option linter.unusedVariables false
set_option linter.unusedSimpArgs false
/-- A scope with one label, whose jumps count down a number that stands nowhere: what follows the label is walked once. -/
theorem wp_scope_ghost {P : Program} {a : Act} {w : World} {Q : Exit → Act → World → Prop} {c rest : Code} (l : Nat) (J : Nat → Act → World → Prop) (hf : findLabel c l = some (Code.skip.seq rest))
    (pass : ∀ k a w, J k a w → ∀ R : Exit → Act → World → Prop, (∀ k' a' w', k' < k → J k' a' w' → R (.goto l) a' w') → (∀ a' w', Q .ret a' w' → R .ret a' w') → rest.wp P R a w)
    (first : (∀ k a w, J k a w → rest.wp P (Exit.jump l (fun a w => ∃ k, J k a w) Q) a w) → c.wp P (Exit.jump l (fun a w => ∃ k, J k a w) Q) a w) : (Code.scope c).wp P Q a w := by
  classical
  have least : ∀ a w, (∃ k, J k a w) → ∃ k, J k a w ∧ ∀ j, J j a w → k ≤ j := by
    rintro a w ⟨k, hk⟩
    induction k using Nat.strongRecOn with
    | _ k ih =>
      by_cases h : ∃ j, j < k ∧ J j a w
      · obtain ⟨j, hj, hJ⟩ := h
        exact ih j hj hJ
      · exact ⟨k, hk, fun j hj => Nat.le_of_not_lt fun hlt => h ⟨j, hlt, hj⟩⟩
  refine wp_scope_jumps l (fun a w => ∃ k, J k a w) (fun a w => if h : ∃ k, J k a w then Classical.choose (least a w h) else 0) hf (first ?_) ?_
  · intro k a w hJ
    exact pass k a w hJ _ (fun k' a' w' _ h => ⟨rfl, k', h⟩) (fun a' w' h => h)
  · rintro a w hJ
    obtain ⟨s1, s2⟩ := Classical.choose_spec (least a w hJ)
    refine wp_seq (wp_skip ?_)
    refine pass _ a w s1 _ (fun k' a' w' hk h => ⟨rfl, ⟨k', h⟩, ?_⟩) (fun a' w' h => h)
    have h' : ∃ k, J k a' w' := ⟨k', h⟩
    rw [dif_pos h', dif_pos hJ]
    exact Nat.lt_of_le_of_lt ((Classical.choose_spec (least a' w' h')).2 k' h) hk
set_option maxHeartbeats 1000000 in
theorem Contains_ints (A : Option Addr) (c : Nat) (l : List Int) (x : Int) (w : World) (hr : Kd.C (Kd.int .i64) w A l.length l) :
    Calls Tryd.prog 42 #[.slice A l.length c, .int .i64 x] w fun e w' => e = .returned (.bool (l.contains x)) ∧ w' = w := by
  have hI : Calls Tryd.prog 62 #[.slice A l.length c, .int .i64 x] w fun e w' => e = .returned (.int .i64 (firstP (fun j => x == l.getD j 0) l.length)) ∧ w' = w := by
    have HR := Aside0.mk (rowPlaces_ints hr)
    have hn : l.length ≤ 9223372036854775807 := hr.2.1
    clear hr
    go_enter Tryd.func62, Tryd.ntmps62
    go_wp2
    go_loopg [5, 8] l.length (fun gg _ s8 wr => ∃ kk : Nat, kk ≤ l.length ∧ l.length - kk ≤ gg ∧ s8 = .int .i64 kk ∧ wr = w ∧ Aside0 (∀ j, j < kk → (x == l.getD j 0) = false))
    case atStart => exact ⟨0, Nat.zero_le _, by omega, rfl, rfl, ⟨fun j hj => absurd hj (Nat.not_lt_zero _)⟩⟩
    case round =>
      obtain ⟨kk, hkk, hg, rfl, rfl, HN⟩ := hrel
      by_cases hlt : kk < l.length
      · obtain ⟨ad, rfl, hc⟩ := HR.out (by omega)
        have hcell : wr.cell? (ad.add kk) = some (.int .i64 (l.getD kk 0)) := hc kk hlt
        clear hc
        obtain ⟨y, hy⟩ : ∃ y, l.getD kk 0 = y := ⟨_, rfl⟩
        rw [hy] at hcell
        have HY := Aside0.mk hy
        clear hy
        cases hq : (x == y) with
        | true =>
          have HF : Aside0 (firstP (fun j => x == l.getD j 0) l.length = kk) := ⟨firstP_hit hlt (by show (x == l.getD kk 0) = true; rw [HY.out]; exact hq) HN.out⟩
          go_wp2
          go_ret
          exact ⟨by rw [HF.out]; rfl, rfl⟩
        | false =>
          have HF : Aside0 (∀ j, j < kk + 1 → (x == l.getD j 0) = false) := ⟨fun j hj => by
            by_cases e : j = kk
            · subst e; rw [HY.out]; exact hq
            · exact HN.out j (by omega)⟩
          go_wp2
          go_roundg (l.length - (kk + 1))
          case measure => omega
          case rel => exact ⟨kk + 1, by omega, by omega, by go_num, rfl, HF⟩
      · have : kk = l.length := by omega
        subst this
        go_wp2
        go_ret
        exact ⟨by rw [firstP_miss HN.out]; rfl, rfl⟩
  have HI := Aside0.mk hI
  have e : decide (firstP (fun j => x == l.getD j 0) l.length ≥ 0) = l.contains x := by
    rw [firstP_any]
    unfold anyP
    rw [Bool.eq_iff_iff]
    simp only [List.any_eq_true, List.mem_range, List.contains_iff_mem, beq_iff_eq]
    constructor
    · rintro ⟨j, hj, h⟩
      rw [h]
      simp [hj]
    · intro h
      obtain ⟨j, hj, h⟩ := List.getElem_of_mem h
      exact ⟨j, hj, by simp [hj, h]⟩
  have E := Aside0.mk e
  clear hI hr e
  go_enter Tryd.func42, Tryd.ntmps42
  go_wp2_with (go_at_call 62; refine (HI.out).mono ?_; rintro e w' ⟨rfl, rfl⟩)
  go_ret
  exact ⟨by rw [← E.out]; rfl, rfl⟩
/-! The plain side. -/
def putStep (st : List Int × Bool × List Int) (x : Int) : List Int × Bool × List Int :=
  if st.1.contains x then st else if st.2.2.getD x.natAbs 0 = -x then (st.1 ++ [x], true, st.2.2) else (st.1 ++ [x], st.2.1, st.2.2.set x.natAbs x)
def scanL (s : Nat → Int) : List (List Int) → Int → Option Int
  | [], next => some next
  | c :: cs, next => if (openL s c 0 false).2 = true then scanL s cs next else if (openL s c 0 false).1 = 0 then none else if next = 0 then scanL s cs (openL s c 0 false).1 else scanL s cs next
def unitsL (cls : List (List Int)) : Nat → List Int → List Int → List Int × Bool
  | 0, row, s => (row, false)
  | k + 1, row, s => match scanL (s.getD · 0) cls 0 with
    | none => (row, true)
    | some x => if x = 0 then (row, false) else unitsL cls k (row ++ [x]) (s.set x.natAbs x)
/-- How many places are not told. -/
def zeros (s : List Int) : Nat := (s.filter (· = 0)).length
def unitL (n : Nat) (cls : List (List Int)) (lits : List Int) : List Int × Bool :=
  let st := lits.foldl putStep ([], false, List.replicate (n + 1) 0)
  if st.2.1 = true then (st.1, true) else unitsL cls (zeros st.2.2 + 1) st.1 st.2.2
structure SInv (n : Nat) (row : List Int) (s : List Int) : Prop where
  len : s.length = n + 1
  at_ : ∀ j, j ≤ n → s.getD j 0 = 0 ∨ ((s.getD j 0).natAbs = j ∧ s.getD j 0 ∈ row ∧ j ≠ 0)
theorem SInv.start (n : Nat) : SInv n [] (List.replicate (n + 1) 0) := ⟨by simp, fun j hj => .inl (by simp [List.getD, List.getElem?_replicate]; split <;> rfl)⟩
theorem SInv.more {n : Nat} {row s : List Int} (h : SInv n row s) (x : Int) : SInv n (row ++ [x]) s := ⟨h.len, fun j hj => by
  rcases h.at_ j hj with h1 | ⟨h1, h2, h3⟩
  · exact .inl h1
  · exact .inr ⟨h1, List.mem_append_left _ h2, h3⟩⟩
theorem SInv.put {n : Nat} {row s : List Int} (h : SInv n row s) (x : Int) (hx : x ≠ 0) (hx1 : x.natAbs ≤ n) : SInv n (row ++ [x]) (s.set x.natAbs x) := ⟨by rw [List.length_set]; exact h.len, fun j hj => by
  have hl := h.len
  by_cases e : x.natAbs = j
  · subst e
    have : (s.set x.natAbs x).getD x.natAbs 0 = x := by simp [List.getD, List.getElem?_set, show x.natAbs < s.length by omega]
    rw [this]
    exact .inr ⟨rfl, List.mem_append_right _ (by simp), by omega⟩
  · have : (s.set x.natAbs x).getD j 0 = s.getD j 0 := by simp [List.getD, List.getElem?_set, e]
    rw [this]
    exact (h.more x).at_ j hj⟩
theorem SInv.fresh {n : Nat} {row s : List Int} (h : SInv n row s) {x : Int} (hx : x ≠ 0) (hx1 : x.natAbs ≤ n) (hm : x ∉ row) : s.getD x.natAbs 0 = -x ∨ s.getD x.natAbs 0 = 0 := by
  rcases h.at_ x.natAbs hx1 with h1 | ⟨h1, h2, _⟩
  · exact .inr h1
  · left
    by_cases e : s.getD x.natAbs 0 = x
    · rw [e] at h2; exact absurd h2 hm
    · omega
theorem zeros_set {s : List Int} {j : Nat} {x : Int} (hj : j < s.length) (h0 : s.getD j 0 = 0) (hx : x ≠ 0) : zeros (s.set j x) + 1 = zeros s := by
  induction s generalizing j with
  | nil => simp at hj
  | cons y s ih =>
    cases j with
    | zero =>
      have h0' : y = 0 := by simpa using h0
      subst h0'
      simp [zeros, hx]
    | succ j =>
      have := ih (j := j) (by simpa using hj) (by simpa [List.getD] using h0)
      simp only [zeros, List.set_cons_succ, List.filter_cons] at this ⊢
      split
      · simp only [List.length_cons]; omega
      · omega
theorem zeros_le (s : List Int) : zeros s ≤ s.length := List.length_filter_le _ _
theorem zeros_pos {n : Nat} {row s : List Int} (h : SInv n row s) : 0 < zeros s := by
  have h0 : s.getD 0 0 = 0 := by
    rcases h.at_ 0 (Nat.zero_le _) with h1 | ⟨_, _, h3⟩
    · exact h1
    · exact absurd rfl h3
  have hl : 0 < s.length := by have := h.len; omega
  have := zeros_set (x := 1) hl h0 (by omega)
  omega
theorem openL_left (s : Nat → Int) : ∀ (c : List Int) (x : Int) (h : Bool) (z : Int), openL s c x h = (z, false) → z ≠ 0 → z = x ∨ (z ∈ c ∧ s z.natAbs ≠ z ∧ s z.natAbs ≠ -z) := by
  intro c
  induction c with
  | nil => intro x h z e _; simp [openL] at e; exact .inl e.1.symm
  | cons y c ih =>
    intro x h z e hz
    unfold openL at e
    by_cases h1 : s y.natAbs = y
    · rw [if_pos h1] at e; simp at e
    · rw [if_neg h1] at e
      by_cases h2 : s y.natAbs = -y
      · rw [if_pos h2] at e
        rcases ih x h z e hz with h3 | ⟨h3, h4⟩
        · exact .inl h3
        · exact .inr ⟨List.mem_cons_of_mem _ h3, h4⟩
      · rw [if_neg h2] at e
        by_cases h3 : x ≠ 0 ∧ x ≠ y
        · rw [if_pos h3] at e
          rcases ih x true z e hz with h4 | ⟨h4, h5⟩
          · exact .inl h4
          · exact .inr ⟨List.mem_cons_of_mem _ h4, h5⟩
        · rw [if_neg h3] at e
          rcases ih y h z e hz with h4 | ⟨h4, h5⟩
          · subst h4; exact .inr ⟨List.mem_cons_self, h1, h2⟩
          · exact .inr ⟨List.mem_cons_of_mem _ h4, h5⟩
theorem scanL_next (s : Nat → Int) : ∀ (cls : List (List Int)) (next z : Int), scanL s cls next = some z → z ≠ 0 → z = next ∨ ∃ c ∈ cls, z ∈ c ∧ s z.natAbs ≠ z ∧ s z.natAbs ≠ -z := by
  intro cls
  induction cls with
  | nil => intro next z e _; simp [scanL] at e; exact .inl e.symm
  | cons c cs ih =>
    intro next z e hz
    unfold scanL at e
    have go : ∀ nx, scanL s cs nx = some z → z = nx ∨ ∃ c' ∈ c :: cs, z ∈ c' ∧ s z.natAbs ≠ z ∧ s z.natAbs ≠ -z := by
      intro nx e
      rcases ih nx z e hz with h | ⟨c', h1, h2⟩
      · exact .inl h
      · exact .inr ⟨c', List.mem_cons_of_mem _ h1, h2⟩
    by_cases h1 : (openL s c 0 false).2 = true
    · rw [if_pos h1] at e; exact go _ e
    · rw [if_neg h1] at e
      by_cases h2 : (openL s c 0 false).1 = 0
      · rw [if_pos h2] at e; simp at e
      · rw [if_neg h2] at e
        by_cases h3 : next = 0
        · rw [if_pos h3] at e
          rcases go _ e with h4 | h4
          · right
            rcases openL_left s c 0 false z (by rw [h4]; ext <;> simp_all) hz with h5 | h5
            · exact absurd h5 hz
            · exact ⟨c, List.mem_cons_self, h5⟩
          · exact .inr h4
        · rw [if_neg h3] at e; exact go _ e
/-! The memory on the way. -/
structure USt (w W : World) (bt bs n : Nat) (A : Option Addr) (c ln : Nat) (row : List Int) (cl : Bool) (s : List Int) (rv : Value) : Prop where
  t : TrailAt W bt bs n row cl s rv
  c0 : W.cell? ⟨w.heap.size, 0, none⟩ = some (.int .i64 n)
  c1 : W.cell? ⟨w.heap.size, 1, none⟩ = some (.slice A ln c)
  lt : w.heap.size < bs
  bel : Below w.heap.size w W
theorem USt.drawn {w W : World} {bt bs n : Nat} {A : Option Addr} {c ln : Nat} {row : List Int} {cl : Bool} {s : List Int} {rv : Value} (h : USt w W bt bs n A c ln row cl s rv) {W' : World} (hb : Below W.heap.size W W') : USt w W' bt bs n A c ln row cl s rv :=
  ⟨h.t.below hb, pw_cell_below hb h.c0, pw_cell_below hb h.c1, h.lt, h.bel.trans (hb.mono h.bel.size)⟩
theorem USt.put {w W W' : World} {bt bs n : Nat} {A : Option Addr} {c ln : Nat} {row row' : List Int} {cl cl' : Bool} {s s' : List Int} {rv : Value} (h : USt w W bt bs n A c ln row cl s rv) (hp : PutPost bt bs n row' cl' s' W W') : ∃ rv', USt w W' bt bs n A c ln row' cl' s' rv' := by
  obtain ⟨rv', ht, hb⟩ := hp
  exact ⟨rv', ht, (hb.cell (p := ⟨w.heap.size, 0, none⟩) h.lt).trans h.c0, (hb.cell (p := ⟨w.heap.size, 1, none⟩) h.lt).trans h.c1, h.lt, h.bel.trans (hb.mono (Nat.le_of_lt h.lt))⟩
theorem TrailAt.row_reads {w : World} {bt bs n : Nat} {row : List Int} {cl : Bool} {s : List Int} {rv : Value} (h : TrailAt w bt bs n row cl s rv) : ∃ A c, rv = .slice A row.length c ∧ row.length ≤ c ∧ Kd.C (Kd.int .i64) w A row.length row := by
  have hR : (Kd.int .i64).R 3 w (bt + 1) (fun _ => True) rv row := Kd.R_of_own h.own (fun _ _ => trivial)
  exact Kd.R_reads hR

end Go.Proofs.YtghecdmcghppnaaDoor
