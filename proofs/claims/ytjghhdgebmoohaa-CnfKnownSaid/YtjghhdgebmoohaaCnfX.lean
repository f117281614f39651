/- The chapter's examples: the law's own function works answers true. -/
import Derived.Test.YtjghhdgebmoohaaCnfW
namespace Go.Proofs.Ytjghhdgebmoohaa
open Go.RowKit Go.Proofs.YtjghhdgebmoohaaW.PrintWords Go.Proofs.YtjghhdgebmoohaaW.PrintMore Go.Lib Go.Sort
set_option linter.unusedVariables false
set_option linter.unusedSimpArgs false
theorem calls_named {P : Program} {f : Nat} {args : Array Value} {w : World} {Q : Ending → World → Prop} (h : ∀ W, W = w → Calls P f args W Q) : Calls P f args w Q := h w rfl
/-- A row of numbers that lies in a block. -/
theorem lit_ints {W : World} {b : Nat} {t : TypeId} {fr : Nat × Nat} (xs : List Int) (h : W.heap[b]? = some (.cells (xs.map (Value.int .i64)).toArray t fr)) (hl : xs.length ≤ 9223372036854775807) : Kd.C (Kd.int .i64) W (some ⟨b, 0, none⟩) xs.length xs := by
  refine ⟨rfl, hl, fun _ => ⟨_, rfl, fun j p hp => ⟨[.int .i64 p], rfl, rfl, fun i u hu => ?_⟩⟩⟩
  have hi : i = 0 := by
    cases i with
    | zero => rfl
    | succ i => simp at hu
  subst hi
  simp at hu
  subst hu
  rw [Addr.add_lit]
  simp only [World.cell?, h]
  simp [Kd.int, Kd.scalar, hp]
theorem lit_bools {W : World} {b : Nat} {t : TypeId} {fr : Nat × Nat} (xs : List Bool) (h : W.heap[b]? = some (.cells (xs.map Value.bool).toArray t fr)) (hl : xs.length ≤ 9223372036854775807) : Kd.C Kd.bool W (some ⟨b, 0, none⟩) xs.length xs := by
  refine ⟨rfl, hl, fun _ => ⟨_, rfl, fun j p hp => ⟨[.bool p], rfl, rfl, fun i u hu => ?_⟩⟩⟩
  have hi : i = 0 := by
    cases i with
    | zero => rfl
    | succ i => simp at hu
  subst hi
  simp at hu
  subst hu
  rw [Addr.add_lit]
  simp only [World.cell?, h]
  simp [Kd.bool, Kd.scalar, hp]
/-- A row of rows that lies in a block. -/
theorem lit_rows {W : World} {b e : Nat} {t : TypeId} {fr : Nat × Nat} {cs : Array Value} (xs : List (List Int)) (h : W.heap[b]? = some (.cells cs t fr)) (hl : xs.length ≤ 9223372036854775807)
    (hc : ∀ (j : Nat) (p : List Int), xs[j]? = some p → ∃ A c, cs[j]? = some (Value.slice A p.length c) ∧ p.length ≤ c ∧ Kd.C (Kd.int .i64) W A p.length p) : Kd.C (Kd.slice e (Kd.int .i64)) W (some ⟨b, 0, none⟩) xs.length xs := by
  refine ⟨rfl, hl, fun _ => ⟨_, rfl, fun j p hp => ?_⟩⟩
  obtain ⟨A, c, h1, h2, h3⟩ := hc j p hp
  refine ⟨[.slice A p.length c], rfl, ⟨A, c, rfl, h2, h3⟩, fun i u hu => ?_⟩
  have hi : i = 0 := by
    cases i with
    | zero => rfl
    | succ i => simp at hu
  subst hi
  simp at hu
  subst hu
  rw [Addr.add_lit]
  simp only [World.cell?, h]
  simp [Kd.slice, h1]
def cls0 : List (List Int) := [[1, 2], [-1, 3], [-3, -2]]
theorem u1 : cnf_Unit.f 3 cls0 [1] = some ([1, 3, -2], false) := by decide +kernel
theorem u2 : cnf_Unit.f 3 cls0 [-1] = some ([-1, 2, -3], false) := by decide +kernel
theorem u3 : cnf_Unit.f 3 cls0 [1, 2] = some ([1, 2, 3], true) := by decide +kernel
theorem mergeN_eq {c l : List Int} (h1 : l.Pairwise fun x y => (!(ltOf cfN) y x) = true) (h2 : c.Perm l) : (c.mergeSort fun x y => !(ltOf cfN) y x) = l := by
  have hp := List.pairwise_mergeSort (le := fun x y => !(ltOf cfN) y x) (fun a b c q1 q2 => by
    simp only [Bool.not_eq_true'] at *
    exact swoN.ntrans _ _ _ q2 q1) (fun a b => by
    cases q1 : ltOf cfN b a with
    | false => simp
    | true =>
      cases q2 : ltOf cfN a b with
      | false => simp
      | true => exact absurd (swoN.trans _ _ _ q1 q2) (by rw [swoN.irrefl]; simp)) c
  refine List.Perm.eq_of_pairwise (fun a b _ _ q1 q2 => ?_) hp h1 ((List.mergeSort_perm c _).trans h2)
  exact totN a b (by simpa using q2) (by simpa using q1)
theorem n1 : cnf_Norm.f [3, 1, 3] = some ([1, 3], false) := by
  have e : sortN [3, 1, 3] = [1, 3] := by
    unfold sortN
    rw [mergeN_eq (l := [1, 3, 3]) (by decide +kernel) (by decide +kernel)]
    decide +kernel
  unfold cnf_Norm.f normL
  rw [e]
  decide +kernel
theorem n2 : cnf_Norm.f [1, -1] = some ([], true) := by
  have e : sortN [1, -1] = [1, -1] := by
    unfold sortN
    rw [mergeN_eq (l := [1, -1]) (by decide +kernel) (by decide +kernel)]
    decide +kernel
  unfold cnf_Norm.f normL
  rw [e]
  decide +kernel
theorem heap_new (w : World) (o : Obj) (i : Nat) (h : i = w.heap.size) : (w.alloc o).heap[i]? = some o := by
  subst h
  exact heap_alloc_new w o
theorem heap_old (w : World) (o : Obj) (i : Nat) (h : i < w.heap.size) : (w.alloc o).heap[i]? = w.heap[i]? := by
  show (w.heap.push o)[i]? = _
  rw [Array.getElem?_push, if_neg (by omega)]
theorem same_any (A : Option Addr) (c : Nat) (l : List Int) (B : Option Addr) (d : Nat) (w : World) (hl : Kd.C (Kd.int .i64) w A l.length l) (hm : Kd.C (Kd.int .i64) w B l.length l) :
    Calls Try.prog 24 #[.slice A l.length c, .slice B l.length d] w fun e w' => e = .returned (.bool true) ∧ Below w.heap.size w w' :=
  (SameInts_any A c l B d l w hl hm).mono fun _ _ ⟨he, hd⟩ => ⟨by rw [he]; simp, hd.below⟩
/-- What stays in memory: the formula, its variable, rows. -/
structure Mem (b : Nat) (rs : List (Option Addr × List Int)) (w0 W : World) : Prop where
  cls : Kd.C (Kd.slice 3 (Kd.int .i64)) W (some ⟨b + 1 + 1 + 1, 0, none⟩) cls0.length cls0
  c0 : W.cell? ⟨b + 1 + 1 + 1 + 1, 0, none⟩ = some (.int .i64 3)
  c1 : W.cell? ⟨b + 1 + 1 + 1 + 1, 1, none⟩ = some (.slice (some ⟨b + 1 + 1 + 1, 0, none⟩) 3 3)
  rows : ∀ p ∈ rs, Kd.C (Kd.int .i64) W p.1 p.2.length p.2
  bel : Below w0.heap.size w0 W
theorem Mem.below {b : Nat} {rs : List (Option Addr × List Int)} {w0 W W' : World} (h : Mem b rs w0 W) (hb : Below W.heap.size W W') : Mem b rs w0 W' :=
  ⟨Kd.C_below h.cls hb, pw_cell_below hb h.c0, pw_cell_below hb h.c1, fun p hp => Kd.C_below (h.rows p hp) hb, h.bel.trans (hb.mono h.bel.size)⟩
theorem Mem.alloc {b : Nat} {rs : List (Option Addr × List Int)} {w0 W : World} (h : Mem b rs w0 W) (o : Obj) : Mem b rs w0 (W.alloc o) := h.below ((Below.refl _ _).alloc (Nat.le_refl _) o)
theorem Mem.more {b : Nat} {rs : List (Option Addr × List Int)} {w0 W : World} (h : Mem b rs w0 W) {A : Option Addr} {l : List Int} (hK : Kd.C (Kd.int .i64) W A l.length l) : Mem b ((A, l) :: rs) w0 W :=
  ⟨h.cls, h.c0, h.c1, fun p hp => by
    rcases List.mem_cons.1 hp with rfl | hp
    · exact hK
    · exact h.rows p hp, h.bel⟩
theorem alloc_ints (W : World) (t : TypeId) (xs : List Int) (hl : xs.length ≤ 9223372036854775807) : Kd.C (Kd.int .i64) (W.alloc (.cells (xs.map (Value.int .i64)).toArray t)) (some ⟨W.heap.size, 0, none⟩) xs.length xs := lit_ints xs (heap_alloc_new _ _) hl
theorem alloc_bools (W : World) (t : TypeId) (xs : List Bool) (hl : xs.length ≤ 9223372036854775807) : Kd.C Kd.bool (W.alloc (.cells (xs.map Value.bool).toArray t)) (some ⟨W.heap.size, 0, none⟩) xs.length xs := lit_bools xs (heap_alloc_new _ _) hl
theorem h1 : cnf_Holds.f 3 cls0 [true, false, true] = some true := by decide +kernel
set_option maxRecDepth 100000 in
set_option maxHeartbeats 4000000 in
theorem works_any (w : World) : Calls Try.prog 16 #[] w fun e w' => e = .returned (.bool true) ∧ Below w.heap.size w w' := by
  go_enter Try.func16, Try.ntmps16
  go_wp2_with fail
  refine calls_named ?_
  intro W hW
  have hb0 : W.heap[w.heap.size]? = some (.cells ([1, 2].map (Value.int .i64)).toArray 3 (0, 0)) := by rw [hW]; repeat (first | exact heap_new _ _ _ (by simp) | refine (heap_old _ _ _ (by simp <;> omega)).trans ?_)
  have hb1 : W.heap[w.heap.size + 1]? = some (.cells ([-1, 3].map (Value.int .i64)).toArray 3 (0, 0)) := by rw [hW]; repeat (first | exact heap_new _ _ _ (by simp) | refine (heap_old _ _ _ (by simp <;> omega)).trans ?_)
  have hb2 : W.heap[w.heap.size + 1 + 1]? = some (.cells ([-3, -2].map (Value.int .i64)).toArray 3 (0, 0)) := by rw [hW]; repeat (first | exact heap_new _ _ _ (by simp) | refine (heap_old _ _ _ (by simp <;> omega)).trans ?_)
  have hb3 : W.heap[w.heap.size + 1 + 1 + 1]? = some (.cells #[.slice (some ⟨w.heap.size, 0, none⟩) 2 2, .slice (some ⟨w.heap.size + 1, 0, none⟩) 2 2, .slice (some ⟨w.heap.size + 1 + 1, 0, none⟩) 2 2] 35 (0, 0)) := by rw [hW]; repeat (first | exact heap_new _ _ _ (by simp) | refine (heap_old _ _ _ (by simp <;> omega)).trans ?_)
  have hb4 : W.heap[w.heap.size + 1 + 1 + 1 + 1]? = some (.cells #[.int .i64 3, .slice (some ⟨w.heap.size + 1 + 1 + 1, 0, none⟩) 3 3] 24 (0, 0)) := by rw [hW]; repeat (first | exact heap_new _ _ _ (by simp) | refine (heap_old _ _ _ (by simp <;> omega)).trans ?_)
  have hb5 : W.heap[w.heap.size + 1 + 1 + 1 + 1 + 1]? = some (.cells ([1].map (Value.int .i64)).toArray 3 (0, 0)) := by rw [hW]; repeat (first | exact heap_new _ _ _ (by simp) | refine (heap_old _ _ _ (by simp <;> omega)).trans ?_)
  have hM : Mem w.heap.size [] w W := by
    refine ⟨lit_rows cls0 hb3 (by decide) ?_, by simp [World.cell?, hb4], by simp [World.cell?, hb4], by simp, ?_⟩
    · intro j p hp
      match j, hp with
      | 0, hp => cases hp; exact ⟨_, _, rfl, by decide, lit_ints [1, 2] hb0 (by decide)⟩
      | 1, hp => cases hp; exact ⟨_, _, rfl, by decide, lit_ints [-1, 3] hb1 (by decide)⟩
      | 2, hp => cases hp; exact ⟨_, _, rfl, by decide, lit_ints [-3, -2] hb2 (by decide)⟩
      | k + 3, hp => simp [cls0] at hp
    · rw [hW]
      repeat (first | exact Below.refl _ _ | refine Below.alloc ?_ (by simp <;> omega) _)
  have hK := lit_ints [1] hb5 (by decide)
  have M := Aside0.mk hM
  clear hM hb0 hb1 hb2 hb3 hb4 hb5 hW
  refine (cnf_Unit.calls 3 (some ⟨w.heap.size + 1 + 1 + 1, 0, none⟩) 3 cls0 _ 1 [1] [1, 3, -2] false W M.out.cls (by decide) hK (by decide) u1).mono ?_
  rintro e w1 ⟨v1, rfl, hR, hb⟩
  obtain ⟨A1, k1, rfl, _, hK1⟩ := Kd.R_reads hR
  replace M := Aside0.mk ((M.out.below hb).more hK1)
  obtain ⟨_, q0, q1, _, _⟩ := M.out
  clear hR hb hK hK1
  go_wp2_with fail
  refine (cnf_Unit.calls 3 (some ⟨w.heap.size + 1 + 1 + 1, 0, none⟩) 3 cls0 _ 1 [-1] [-1, 2, -3] false _ (M.out.alloc _).cls (by decide) (alloc_ints _ _ [-1] (by decide)) (by decide) u2).mono ?_
  rintro e w2 ⟨v2, rfl, hR, hb⟩
  obtain ⟨A2, k2, rfl, _, hK⟩ := Kd.R_reads hR
  replace M := Aside0.mk (((M.out.alloc _).below hb).more hK)
  clear q0 q1
  obtain ⟨_, q0, q1, _, _⟩ := M.out
  clear hR hb hK
  go_wp2_with fail
  refine (cnf_Unit.calls 3 (some ⟨w.heap.size + 1 + 1 + 1, 0, none⟩) 3 cls0 _ 2 [1, 2] [1, 2, 3] true _ (M.out.alloc _).cls (by decide) (alloc_ints _ _ [1, 2] (by decide)) (by decide) u3).mono ?_
  rintro e w3 ⟨v3, rfl, hR, hb⟩
  obtain ⟨A3, k3, rfl, _, hK⟩ := Kd.R_reads hR
  replace M := Aside0.mk (((M.out.alloc _).below hb).more hK)
  clear q0 q1
  obtain ⟨_, q0, q1, _, _⟩ := M.out
  clear hR hb hK
  go_wp2_with fail
  refine (cnf_Norm.calls _ 3 [3, 1, 3] [1, 3] false _ (alloc_ints _ _ [3, 1, 3] (by decide)) (by decide) n1).mono ?_
  rintro e w4 ⟨v4, rfl, hR, hb⟩
  obtain ⟨A4, k4, rfl, _, hK⟩ := Kd.R_reads hR
  replace M := Aside0.mk (((M.out.alloc _).below hb).more hK)
  clear q0 q1
  obtain ⟨_, q0, q1, _, _⟩ := M.out
  clear hR hb hK
  go_wp2_with fail
  refine (cnf_Norm.calls _ 2 [1, -1] [] true _ (alloc_ints _ _ [1, -1] (by decide)) (by decide) n2).mono ?_
  rintro e w5 ⟨v5, rfl, hR, hb⟩
  obtain ⟨A5, k5, rfl, _, hK⟩ := Kd.R_reads hR
  replace M := Aside0.mk (((M.out.alloc _).below hb).more hK)
  clear q0 q1
  obtain ⟨_, q0, q1, _, _⟩ := M.out
  clear hR hb hK
  go_wp2_with fail
  refine (same_any A1 k1 [1, 3, -2] _ _ _ ((M.out.alloc _).rows (A1, [1, 3, -2]) (by simp)) (alloc_ints _ _ [1, 3, -2] (by decide))).mono ?_
  rintro e w6 ⟨rfl, hb⟩
  replace M := Aside0.mk ((M.out.alloc _).below hb)
  clear q0 q1
  obtain ⟨_, q0, q1, _, _⟩ := M.out
  clear hb
  go_wp2_with fail
  refine (same_any A2 k2 [-1, 2, -3] _ _ _ ((M.out.alloc _).rows (A2, [-1, 2, -3]) (by simp)) (alloc_ints _ _ [-1, 2, -3] (by decide))).mono ?_
  rintro e w7 ⟨rfl, hb⟩
  replace M := Aside0.mk ((M.out.alloc _).below hb)
  clear q0 q1
  obtain ⟨_, q0, q1, _, _⟩ := M.out
  clear hb
  go_wp2_with fail
  refine (same_any A3 k3 [1, 2, 3] _ _ _ ((M.out.alloc _).rows (A3, [1, 2, 3]) (by simp)) (alloc_ints _ _ [1, 2, 3] (by decide))).mono ?_
  rintro e w8 ⟨rfl, hb⟩
  replace M := Aside0.mk ((M.out.alloc _).below hb)
  clear q0 q1
  obtain ⟨_, q0, q1, _, _⟩ := M.out
  clear hb
  go_wp2_with fail
  refine (same_any A4 k4 [1, 3] _ _ _ ((M.out.alloc _).rows (A4, [1, 3]) (by simp)) (alloc_ints _ _ [1, 3] (by decide))).mono ?_
  rintro e w9 ⟨rfl, hb⟩
  replace M := Aside0.mk ((M.out.alloc _).below hb)
  clear q0 q1
  obtain ⟨_, q0, q1, _, _⟩ := M.out
  clear hb
  go_wp2_with fail
  refine (cnf_Holds.calls 3 (some ⟨w.heap.size + 1 + 1 + 1, 0, none⟩) 3 cls0 _ 3 [true, false, true] true _ (M.out.alloc _).cls (by decide) (alloc_bools _ _ [true, false, true] (by decide)) (by decide) h1).mono ?_
  rintro e w10 ⟨rfl, hb⟩
  replace M := Aside0.mk ((M.out.alloc _).below hb)
  clear q0 q1
  obtain ⟨_, q0, q1, _, _⟩ := M.out
  clear hb
  go_wp2_with fail
  refine (cnf_Count_any 3 (some ⟨w.heap.size + 1 + 1 + 1, 0, none⟩) 3 cls0 _ M.out.cls (by decide)).mono ?_
  rintro e w11 ⟨rfl, hb⟩
  replace M := Aside0.mk (M.out.below hb)
  clear hb
  go_wp2
  go_ret
  exact ⟨rfl, M.out.bel⟩
def tithebarnlaw16_works.f : Option Bool := some true
theorem tithebarnlaw16_works.calls (r : Bool) (w : World) (h : tithebarnlaw16_works.f = some r) : Calls Try.prog 16 #[] w fun e w' => e = .returned (.bool r) ∧ Below w.heap.size w w' := by
  obtain rfl := Option.some.inj h
  exact works_any w
end Go.Proofs.Ytjghhdgebmoohaa
