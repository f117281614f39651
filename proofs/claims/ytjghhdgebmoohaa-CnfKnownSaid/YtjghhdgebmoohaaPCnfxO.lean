/- The closed law CnfKnown, walked by hand out of the contracts of the other laws: each answers true of whatever input. -/
import Derived.Test.YtjghhdgebmoohaaPureC
import Derived.Test.YtjghhdgebmoohaaPureD
import Derived.Test.YtjghhdgebmoohaaCnfX
import Derived.Deep.RegionHeld3
import Derived.Deep.CutRange
import Derived.BigRegion
namespace Go.Proofs.Ytjghhdgebmoohaa
open Go.RowKit Go.Proofs.YtjghhdgebmoohaaW.PrintWords Go.Proofs.YtjghhdgebmoohaaW.PrintMore
set_option linter.unusedVariables false
set_option linter.unusedSimpArgs false
def GoodRow (r : List Int) : Prop := r.length ≤ maxLen ∧ ∀ y ∈ r, (Lit.int .i64 y).wf = true
instance (r : List Int) : Decidable (GoodRow r) := by unfold GoodRow; infer_instance
theorem known_check (n : Int) (A : Option Addr) (c : Nat) (l : List (List Int)) (w : World) (hn : (Lit.int .i64 n).wf = true) (hr : Kd.C (Kd.slice 3 (Kd.int .i64)) w A l.length l) (hc : l.length ≤ c) (hg : ∀ r ∈ l, GoodRow r) :
    Calls Try.prog 3 #[.agg #[.int .i64 n, .slice A l.length c]] w fun e w' => e = .returned (.bool true) ∧ Below w.heap.size w w' := by
  obtain ⟨k, h⟩ := CnfCheck_pure n l hn ⟨hr.2.1, hg⟩
  exact PCnf.tithebarnlaw16_CnfCheck.calls k n A c l true w hr hc h
theorem known_norm (A : Option Addr) (c : Nat) (l : List Int) (w : World) (hr : Kd.C (Kd.int .i64) w A l.length l) (hc : l.length ≤ c) (hg : GoodRow l) :
    Calls Try.prog 4 #[.slice A l.length c] w fun e w' => e = .returned (.bool true) ∧ Below w.heap.size w w' := by
  obtain ⟨k, h⟩ := CnfNorm_pure l hg
  exact PCnf.tithebarnlaw16_CnfNorm.calls k A c l true w hr hc h
theorem known_holds (n : Int) (A : Option Addr) (c : Nat) (l : List (List Int)) (M : Option Addr) (d : Nat) (m : List Bool) (w : World) (hn : (Lit.int .i64 n).wf = true) (hr : Kd.C (Kd.slice 3 (Kd.int .i64)) w A l.length l) (hc : l.length ≤ c) (hg : ∀ r ∈ l, GoodRow r) (hm : Kd.C Kd.bool w M m.length m) (hd : m.length ≤ d) :
    Calls Try.prog 5 #[.agg #[.int .i64 n, .slice A l.length c], .slice M m.length d] w fun e w' => e = .returned (.bool true) ∧ Below w.heap.size w w' := by
  obtain ⟨k, h⟩ := CnfHolds_pure n l m hn ⟨hr.2.1, hg⟩ ⟨hm.2.1, fun _ _ => trivial⟩
  exact PCnf.tithebarnlaw16_CnfHolds.calls k n A c l M d m true w hr hc hm hd h
theorem known_unit (n : Int) (A : Option Addr) (c : Nat) (l : List (List Int)) (M : Option Addr) (d : Nat) (m : List Int) (w : World) (hn : (Lit.int .i64 n).wf = true) (hr : Kd.C (Kd.slice 3 (Kd.int .i64)) w A l.length l) (hc : l.length ≤ c) (hg : ∀ r ∈ l, GoodRow r) (hm : Kd.C (Kd.int .i64) w M m.length m) (hd : m.length ≤ d) (hgm : GoodRow m) :
    Calls Try.prog 6 #[.agg #[.int .i64 n, .slice A l.length c], .slice M m.length d] w fun e w' => e = .returned (.bool true) ∧ Below w.heap.size w w' := by
  obtain ⟨k, h⟩ := CnfUnit_pure n l m hn ⟨hr.2.1, hg⟩ hgm
  exact PCnf.tithebarnlaw16_CnfUnit.calls k n A c l M d m true w hr hc hm hd h
theorem known_sound (n : Int) (A : Option Addr) (c : Nat) (l : List (List Int)) (M : Option Addr) (d : Nat) (m : List Int) (B : Option Addr) (e : Nat) (b : List Bool) (w : World) (hn : (Lit.int .i64 n).wf = true) (hr : Kd.C (Kd.slice 3 (Kd.int .i64)) w A l.length l) (hc : l.length ≤ c) (hg : ∀ r ∈ l, GoodRow r) (hm : Kd.C (Kd.int .i64) w M m.length m) (hd : m.length ≤ d) (hgm : GoodRow m) (hb : Kd.C Kd.bool w B b.length b) (he : b.length ≤ e) :
    Calls Try.prog 7 #[.agg #[.int .i64 n, .slice A l.length c], .slice M m.length d, .slice B b.length e] w fun e w' => e = .returned (.bool true) ∧ Below w.heap.size w w' := by
  obtain ⟨k, h⟩ := CnfSound_pure n l m b hn ⟨hr.2.1, hg⟩ hgm ⟨hb.2.1, fun _ _ => trivial⟩
  exact PCnf.tithebarnlaw16_CnfSound.calls k n A c l M d m B e b true w hr hc hm hd hb he h
def rows0 : List (List Int) := [[], [1], [-1], [1, 2], [-1, 3], [-3, -2], [2, 2], [1, -1], [3, 2, 1], [-2, -2, -3], [0], [4], [-4]]
def lits0 : List (List Int) := [[], [1], [-1], [1, 2], [2, 2, -3], [1, -1], [0], [4]]
theorem good0 : ∀ r ∈ rows0, GoodRow r := by decide
theorem good1 : ∀ r ∈ lits0, GoodRow r := by decide
/-- Rows that lie at a block: each of them is good. -/
def RMem (a n : Nat) (W : World) : Prop := ∀ i : Nat, i < n → ∃ A c r, W.cell? ⟨a, i, none⟩ = some (.slice A r.length c) ∧ r.length ≤ c ∧ GoodRow r ∧ Kd.C (Kd.int .i64) W A r.length r
theorem RMem.below {a n : Nat} {W W' : World} (h : RMem a n W) (hb : Below W.heap.size W W') : RMem a n W' := fun i hi => by
  obtain ⟨A, c, r, h1, h2, h3, h4⟩ := h i hi
  exact ⟨A, c, r, pw_cell_below hb h1, h2, h3, Kd.C_below h4 hb⟩
theorem cell_of_heapK {W : World} {b : Nat} {cs : Array Value} {t : TypeId} {fr : Nat × Nat} (h : W.heap[b]? = some (.cells cs t fr)) (i : Nat) : W.cell? ⟨b, i, none⟩ = cs[i]? := by simp [World.cell?, h]
theorem RMem.cons {a : Nat} {W : World} {cs : Array Value} {t : TypeId} {fr : Nat × Nat} (hb : W.heap[a]? = some (.cells cs t fr)) (n : Nat) (h : ∀ i : Nat, i < n → ∃ A c r, cs[i]? = some (.slice A (List.length r) c) ∧ r.length ≤ c ∧ GoodRow r ∧ Kd.C (Kd.int .i64) W A r.length r) : RMem a n W := fun i hi => by
  obtain ⟨A, c, r, h1, h2⟩ := h i hi
  exact ⟨A, c, r, by rw [cell_of_heapK hb]; exact h1, h2⟩
structure KMem (a : Nat) (w0 W : World) : Prop where
  cls : RMem a 13 W
  bel : Below w0.heap.size w0 W
theorem KMem.below {a : Nat} {w0 W W' : World} (h : KMem a w0 W) (hb : Below W.heap.size W W') : KMem a w0 W' := ⟨h.cls.below hb, h.bel.trans (hb.mono h.bel.size)⟩
structure FMem (f b : Nat) (W : World) : Prop where
  rows : ∃ fl : List (List Int), fl.length = 3 ∧ (∀ r ∈ fl, GoodRow r) ∧ Kd.C (Kd.slice 3 (Kd.int .i64)) W (some ⟨b, 0, none⟩) 3 fl
  f0 : W.cell? ⟨f, 0, none⟩ = some (.int .i64 3)
  f1 : W.cell? ⟨f, 1, none⟩ = some (.slice (some ⟨b, 0, none⟩) 3 3)
theorem FMem.below {f b : Nat} {W W' : World} (h : FMem f b W) (hb : Below W.heap.size W W') : FMem f b W' := by
  obtain ⟨fl, h1, h2, h3⟩ := h.rows
  exact ⟨⟨fl, h1, h2, Kd.C_below h3 hb⟩, pw_cell_below hb h.f0, pw_cell_below hb h.f1⟩
theorem FMem.check {f b : Nat} {W : World} (h : FMem f b W) :
    Calls Try.prog 3 #[.agg #[.int .i64 3, .slice (some ⟨b, 0, none⟩) 3 3]] W fun e w' => e = .returned (.bool true) ∧ Below W.heap.size W w' := by
  obtain ⟨fl, h1, h2, h3⟩ := h.rows
  have := known_check 3 (some ⟨b, 0, none⟩) 3 fl W rfl (by rw [h1]; exact h3) (by omega) h2
  rw [h1] at this
  exact this
theorem FMem.unit {f b : Nat} {W : World} (h : FMem f b W) {A : Option Addr} {c : Nat} {r : List Int} (hr : Kd.C (Kd.int .i64) W A r.length r) (hc : r.length ≤ c) (hg : GoodRow r) :
    Calls Try.prog 6 #[.agg #[.int .i64 3, .slice (some ⟨b, 0, none⟩) 3 3], .slice A r.length c] W fun e w' => e = .returned (.bool true) ∧ Below W.heap.size W w' := by
  obtain ⟨fl, h1, h2, h3⟩ := h.rows
  have := known_unit 3 (some ⟨b, 0, none⟩) 3 fl A c r W rfl (by rw [h1]; exact h3) (by omega) h2 hr hc hg
  rw [h1] at this
  exact this
theorem FMem.holds {f b : Nat} {W : World} (h : FMem f b W) {A : Option Addr} {n c : Nat} {r : List Bool} (hr : Kd.C Kd.bool W A n r) (hc : n ≤ c) :
    Calls Try.prog 5 #[.agg #[.int .i64 3, .slice (some ⟨b, 0, none⟩) 3 3], .slice A n c] W fun e w' => e = .returned (.bool true) ∧ Below W.heap.size W w' := by
  obtain ⟨fl, h1, h2, h3⟩ := h.rows
  obtain rfl := hr.1
  have := known_holds 3 (some ⟨b, 0, none⟩) 3 fl A c r W rfl (by rw [h1]; exact h3) (by omega) h2 hr hc
  rw [h1] at this
  exact this
theorem FMem.sound {f b : Nat} {W : World} (h : FMem f b W) {A : Option Addr} {c : Nat} {r : List Int} (hr : Kd.C (Kd.int .i64) W A r.length r) (hc : r.length ≤ c) (hg : GoodRow r) {B : Option Addr} {e n : Nat} {m : List Bool} (hm : Kd.C Kd.bool W B n m) (he : n ≤ e) :
    Calls Try.prog 7 #[.agg #[.int .i64 3, .slice (some ⟨b, 0, none⟩) 3 3], .slice A r.length c, .slice B n e] W fun e w' => e = .returned (.bool true) ∧ Below W.heap.size W w' := by
  obtain ⟨fl, h1, h2, h3⟩ := h.rows
  obtain rfl := hm.1
  have := known_sound 3 (some ⟨b, 0, none⟩) 3 fl A c r B e m W rfl (by rw [h1]; exact h3) (by omega) h2 hr hc hg hm he
  rw [h1] at this
  exact this
theorem Kd_C_take {α : Type} {d : Kd α} {W : World} {A : Option Addr} {n : Nat} {xs : List α} (h : Kd.C d W A n xs) (q : Nat) (hq : q ≤ n) : Kd.C d W A q (xs.take q) := by
  obtain ⟨h1, h2, h3⟩ := h
  have hl : (xs.take q).length = q := by rw [List.length_take]; omega
  refine ⟨hl.symm ▸ rfl, by omega, fun h0 => ?_⟩
  obtain ⟨a, ha, hc⟩ := h3 (by omega)
  refine ⟨a, ha, fun j p hp => hc j p ?_⟩
  rw [List.getElem?_take] at hp
  split at hp
  · exact hp
  · cases hp
structure LMem (f b B M : Nat) (ys : List Bool) (w0 W : World) : Prop where
  f : FMem f b W
  k : KMem B w0 W
  m : Kd.C Kd.bool W (some ⟨M, 0, none⟩) 3 ys
theorem LMem.below {f b B M : Nat} {ys : List Bool} {w0 W W' : World} (h : LMem f b B M ys w0 W) (hb : Below W.heap.size W W') : LMem f b B M ys w0 W' := ⟨h.f.below hb, h.k.below hb, Kd.C_below h.m hb⟩
theorem LMem.drew {f b B M : Nat} {ys : List Bool} {w0 W : World} (h : LMem f b B M ys w0 W) : LMem f b B M ys w0 W.drew := h.below ((Below.refl _ W).drew)
theorem LMem.alloc {f b B M : Nat} {ys : List Bool} {w0 W : World} (h : LMem f b B M ys w0 W) (o : Obj) : LMem f b B M ys w0 (W.alloc o) := h.below ((Below.refl _ W).alloc (Nat.le_refl _) o)
theorem LMem.all {f b B M : Nat} {ys : List Bool} {w0 W : World} (h : LMem f b B M ys w0 W) : W.cell? ⟨f, 0, none⟩ = some (.int .i64 3) ∧ W.cell? ⟨f, 1, none⟩ = some (.slice (some ⟨b, 0, none⟩) 3 3) ∧ LMem f b B M ys w0 W := ⟨h.f.f0, h.f.f1, h⟩
theorem LMem.hold3 {f b B M : Nat} {ys : List Bool} {w0 W : World} (h : LMem f b B M ys w0 W) :
    Calls Try.prog 5 #[.agg #[.int .i64 3, .slice (some ⟨b, 0, none⟩) 3 3], .slice (some ⟨M, 0, none⟩) 3 3] W fun e w' => e = .returned (.bool true) ∧ Below W.heap.size W w' := h.f.holds h.m (Nat.le_refl _)
theorem LMem.holdq {f b B M : Nat} {ys : List Bool} {w0 W : World} (h : LMem f b B M ys w0 W) (q : Nat) (hq : q ≤ 3) :
    Calls Try.prog 5 #[.agg #[.int .i64 3, .slice (some ⟨b, 0, none⟩) 3 3], .slice (some ⟨M, 0, none⟩) q 3] W fun e w' => e = .returned (.bool true) ∧ Below W.heap.size W w' := h.f.holds (Kd_C_take h.m q hq) hq
theorem LMem.sound1 {f b B M : Nat} {ys : List Bool} {w0 W : World} (h : LMem f b B M ys w0 W) {t : TypeId} {n : Nat} (hn : W.heap[n]? = some (.cells #[.int .i64 1] t (0, 0))) :
    Calls Try.prog 7 #[.agg #[.int .i64 3, .slice (some ⟨b, 0, none⟩) 3 3], .slice (some ⟨n, 0, none⟩) 1 1, .slice (some ⟨M, 0, none⟩) 3 3] W fun e w' => e = .returned (.bool true) ∧ Below W.heap.size W w' :=
  h.f.sound (r := [1]) (lit_ints [1] hn (by decide)) (by decide) (by decide) h.m (Nat.le_refl _)
theorem LMem.sound0 {f b B M : Nat} {ys : List Bool} {w0 W : World} (h : LMem f b B M ys w0 W) :
    Calls Try.prog 7 #[.agg #[.int .i64 3, .slice (some ⟨b, 0, none⟩) 3 3], .slice none 0 0, .slice (some ⟨M, 0, none⟩) 3 3] W fun e w' => e = .returned (.bool true) ∧ Below W.heap.size W w' :=
  h.f.sound (r := []) ⟨rfl, by decide, fun h => by simp at h⟩ (by decide) (by decide) h.m (Nat.le_refl _)
def OkRow (W : World) (A : Option Addr) (n c : Nat) : Prop := ∃ r : List Int, r.length = n ∧ n ≤ c ∧ GoodRow r ∧ Kd.C (Kd.int .i64) W A r.length r
theorem okRow0 (W : World) : OkRow W none 0 0 := ⟨[], rfl, Nat.le_refl _, by decide, rfl, by decide, fun h => by simp at h⟩
theorem okRow1 {W : World} {n : Nat} {t : TypeId} (hn : W.heap[n]? = some (.cells #[.int .i64 1] t (0, 0))) : OkRow W (some ⟨n, 0, none⟩) 1 1 := ⟨[1], rfl, Nat.le_refl _, by decide, lit_ints [1] hn (by decide)⟩
theorem LMem.sound {f b B M : Nat} {ys : List Bool} {w0 W : World} {A : Option Addr} {n c : Nat} (h : LMem f b B M ys w0 W) (hn : OkRow W A n c) :
    Calls Try.prog 7 #[.agg #[.int .i64 3, .slice (some ⟨b, 0, none⟩) 3 3], .slice A n c, .slice (some ⟨M, 0, none⟩) 3 3] W fun e w' => e = .returned (.bool true) ∧ Below W.heap.size W w' := by
  obtain ⟨r, rfl, h1, h2, h3⟩ := hn
  exact h.f.sound h3 h1 h2 h.m (Nat.le_refl _)
theorem heap_new_drew {W : World} {o : Obj} : (W.alloc o).drew.heap[W.heap.size]? = some o := heap_alloc_new W o
structure GMem (C : Nat) (w0 W : World) : Prop where
  nums : Kd.C (Kd.int .i64) W (some ⟨C, 0, none⟩) 5 [-1, 0, 100000, 100001, 1099511627776]
  bel : Below w0.heap.size w0 W
theorem GMem.below {C : Nat} {w0 W W' : World} (h : GMem C w0 W) (hb : Below W.heap.size W W') : GMem C w0 W' := ⟨Kd.C_below h.nums hb, h.bel.trans (hb.mono h.bel.size)⟩
theorem GMem.at {C : Nat} {w0 W : World} (h : GMem C w0 W) (j : Nat) (hj : j < 5) : ∃ n : Int, W.cell? ⟨C, j, none⟩ = some (.int .i64 n) ∧ -1 ≤ n ∧ n ≤ 1099511627776 := by
  have := rowPlaces_ints (l := [-1, 0, 100000, 100001, 1099511627776]) h.nums (by decide)
  obtain ⟨ad, ha, hc⟩ := this
  obtain rfl := Option.some.inj ha
  have hx := hc j hj
  rw [Addr.add_lit] at hx
  refine ⟨_, by simpa using hx, ?_⟩
  match j, hj with
  | 0, _ => decide
  | 1, _ => decide
  | 2, _ => decide
  | 3, _ => decide
  | 4, _ => decide
theorem wf_of {n : Int} (h0 : -9223372036854775808 ≤ n) (h1 : n ≤ 9223372036854775807) : (Lit.int .i64 n).wf = true := WalkArith.wf_i64 (by omega)
theorem known_norm_lit (n : Nat) (t : TypeId) (r : List Int) (w : World) (hb : w.heap[n]? = some (.cells (r.map (Value.int .i64)).toArray t (0, 0))) (hl : r.length ≤ 9223372036854775807) (hg : ∀ y ∈ r, (Lit.int .i64 y).wf = true) :
    Calls Try.prog 4 #[.slice (some ⟨n, 0, none⟩) r.length r.length] w fun e w' => e = .returned (.bool true) ∧ Below w.heap.size w w' :=
  known_norm _ _ r w (lit_ints r hb hl) (Nat.le_refl _) ⟨hl, hg⟩
theorem lits_check (n : Int) (hn : (Lit.int .i64 n).wf = true) {w : World} {t t' : TypeId} :
    Calls Try.prog 3 #[.agg #[.int .i64 n, .slice (some ⟨w.heap.size + 1, 0, none⟩) 1 1]] ((w.alloc (.cells #[.int .i64 1, .int .i64 (-100000)] t)).alloc (.cells #[.slice (some ⟨w.heap.size, 0, none⟩) 2 2] t')) fun e w' => e = .returned (.bool true) ∧ Below ((w.alloc (.cells #[.int .i64 1, .int .i64 (-100000)] t)).alloc (.cells #[.slice (some ⟨w.heap.size, 0, none⟩) 2 2] t')).heap.size ((w.alloc (.cells #[.int .i64 1, .int .i64 (-100000)] t)).alloc (.cells #[.slice (some ⟨w.heap.size, 0, none⟩) 2 2] t')) w' := by
  refine known_check n _ 1 [[1, -100000]] _ hn ?_ (Nat.le_refl _) (by decide)
  refine lit_rows [[1, -100000]] (heap_new _ _ _ (by simp)) (by decide) ?_
  intro j p hp
  match j, hp with
  | 0, hp => cases hp; exact ⟨_, _, rfl, by decide, lit_ints [1, -100000] ((heap_old _ _ _ (by simp)).trans (heap_new _ _ _ rfl)) (by decide)⟩
  | q + 1, hp => simp at hp
theorem below_two {B : Nat} {w w1 w' : World} {o o' : Obj} (h : Below B w w1) (hb : Below ((w1.alloc o).alloc o').heap.size ((w1.alloc o).alloc o') w') (hB : B ≤ w1.heap.size) : Below B w w' := ((h.alloc hB o).alloc (by simp; omega) o').trans (hb.mono (by simp; omega))
/-- The wide row: i ones so far. -/
structure WideMem (M i : Nat) (w0 W : World) : Prop where
  row : W.rowIs M 3 1000001 (fun j => if j < i then .int .i64 1 else .int .i64 0)
  lo : w0.heap.size ≤ M
  bel : Below w0.heap.size w0 W
theorem WideMem.start {w0 W : World} (h : Below w0.heap.size w0 W) : WideMem W.heap.size 0 w0 (W.alloc (.cells (madeCells #[.int .i64 0] 1000001) 3)) :=
  ⟨(World.rowIs_made _ _ _ _).congr (fun i _ => by simp), h.size, h.alloc h.size _⟩
theorem WideMem.set {M i : Nat} {w0 W : World} (h : WideMem M i w0 W) : WideMem M (i + 1) w0 (W.setCell ⟨M, i, none⟩ (.int .i64 1)) :=
  ⟨(h.row.set i _).congr (fun j _ => by by_cases h1 : j = i <;> by_cases h2 : j < i <;> simp [h1, h2] <;> omega), h.lo, h.bel.setCell h.lo _⟩
theorem WideMem.ints {M : Nat} {w0 W : World} (h : WideMem M 1000001 w0 W) : Kd.C (Kd.int .i64) W (some ⟨M, 0, none⟩) 1000001 (List.replicate 1000001 1) := by
  refine ⟨by rw [List.length_replicate], by omega, fun _ => ⟨_, rfl, fun j p hp => ⟨[.int .i64 p], rfl, rfl, fun i u hu => ?_⟩⟩⟩
  have hi : i = 0 := by
    cases i with
    | zero => rfl
    | succ i => simp at hu
  subst hi
  simp at hu
  subst hu
  rw [Addr.add_lit]
  rw [List.getElem?_replicate] at hp
  split at hp
  · rename_i hj
    obtain rfl := Option.some.inj hp
    have := h.row.cell hj
    simpa [hj, Kd.int, Kd.scalar] using this
  · cases hp
theorem WideMem.ints1 {M : Nat} {w0 W : World} (h : WideMem M 1000001 w0 W) : Kd.C (Kd.int .i64) W (some ⟨M, 1, none⟩) 1000000 (List.replicate 1000000 1) := by
  refine ⟨by rw [List.length_replicate], by omega, fun _ => ⟨_, rfl, fun j p hp => ⟨[.int .i64 p], rfl, rfl, fun i u hu => ?_⟩⟩⟩
  have hi : i = 0 := by
    cases i with
    | zero => rfl
    | succ i => simp at hu
  subst hi
  simp at hu
  subst hu
  rw [Addr.add_lit]
  rw [List.getElem?_replicate] at hp
  split at hp
  · rename_i hj
    obtain rfl := Option.some.inj hp
    have := h.row.cell (i := 1 + j) (by omega)
    rw [if_pos (by omega)] at this
    simpa [Kd.int, Kd.scalar] using this
  · cases hp
theorem wide_check (k : Nat) (M o n : Nat) (t : TypeId) (W : World) (h1 : Kd.C (Kd.int .i64) W (some ⟨M, o, none⟩) k (List.replicate k 1)) (hb : W.heap[n]? = some (.cells #[.slice (some ⟨M, o, none⟩) k k] t (0, 0))) (hk : k < 1152921504606846976) :
    Calls Try.prog 17 #[.agg #[.int .i64 1, .slice (some ⟨n, 0, none⟩) 1 1]] W fun e w' => e = .returned (.int .i64 (if k > 1000000 then 160 else 0)) ∧ Below W.heap.size W w' := by
  have hr : Kd.C (Kd.slice 3 (Kd.int .i64)) W (some ⟨n, 0, none⟩) [List.replicate k (1 : Int)].length [List.replicate k (1 : Int)] := by
    refine lit_rows [List.replicate k 1] hb (by simp) ?_
    intro j p hp
    match j, hp with
    | 0, hp => cases hp; exact ⟨_, _, by rw [List.length_replicate]; rfl, by rw [List.length_replicate]; exact Nat.le_refl _, by rw [List.length_replicate]; exact h1⟩
    | q + 1, hp => simp at hp
  have ht : total [List.replicate k (1 : Int)] = k := by simp [total]
  have := cnf_Check_any 1 (some ⟨n, 0, none⟩) 1 [List.replicate k 1] W hr (by rw [ht]; exact hk)
  have e : checkZ 1 [List.replicate k 1] = if k > 1000000 then 160 else 0 := by
    unfold checkZ
    rw [ht]
    have e1 : litB 1 1 = true := by decide +kernel
    have e2 : allB (List.replicate k 1) 1 = true := by
      unfold allB
      rw [List.all_eq_true]
      intro x hx
      rw [List.eq_of_mem_replicate hx]
      exact e1
    simp [e2]
  rw [e] at this
  exact this
theorem WideMem.below {M i : Nat} {w0 W W' : World} (h : WideMem M i w0 W) (hb : Below W.heap.size W W') : WideMem M i w0 W' := ⟨h.row.of_block (hb.block _ h.row.lt), h.lo, h.bel.trans (hb.mono h.bel.size)⟩
theorem wide_one {w : World} (M n : Nat) (W : World) (h : WideMem M 1000001 w W) (hb : W.heap[n]? = some (.cells #[.slice (some ⟨M, 0, none⟩) 1000001 1000001] 35 (0, 0))) :
    Calls Try.prog 17 #[.agg #[.int .i64 1, .slice (some ⟨n, 0, none⟩) 1 1]] W fun e w' => e = .returned (.int .i64 160) ∧ Below W.heap.size W w' := by
  have := wide_check 1000001 M 0 n 35 W h.ints hb (by omega)
  rw [if_pos (by omega)] at this
  exact this
theorem wide_two {w : World} (M n : Nat) (W : World) (h : WideMem M 1000001 w W) (hb : W.heap[n]? = some (.cells #[.slice (some ⟨M, 1, none⟩) 1000000 1000000] 35 (0, 0))) :
    Calls Try.prog 17 #[.agg #[.int .i64 1, .slice (some ⟨n, 0, none⟩) 1 1]] W fun e w' => e = .returned (.int .i64 0) ∧ Below W.heap.size W w' := by
  have := wide_check 1000000 M 1 n 35 W h.ints1 hb (by omega)
  rw [if_neg (by omega)] at this
  exact this
theorem rmem_rows {w W : World} (h1 : W.heap[w.heap.size]? = some (.cells ([1].map (Value.int .i64)).toArray 3 (0, 0))) (h2 : W.heap[w.heap.size + 1]? = some (.cells ([-1].map (Value.int .i64)).toArray 3 (0, 0))) (h3 : W.heap[w.heap.size + 1 + 1]? = some (.cells ([1, 2].map (Value.int .i64)).toArray 3 (0, 0))) (h4 : W.heap[w.heap.size + 1 + 1 + 1]? = some (.cells ([-1, 3].map (Value.int .i64)).toArray 3 (0, 0))) (h5 : W.heap[w.heap.size + 1 + 1 + 1 + 1]? = some (.cells ([-3, -2].map (Value.int .i64)).toArray 3 (0, 0))) (h6 : W.heap[w.heap.size + 1 + 1 + 1 + 1 + 1]? = some (.cells ([2, 2].map (Value.int .i64)).toArray 3 (0, 0))) (h7 : W.heap[w.heap.size + 1 + 1 + 1 + 1 + 1 + 1]? = some (.cells ([1, -1].map (Value.int .i64)).toArray 3 (0, 0))) (h8 : W.heap[w.heap.size + 1 + 1 + 1 + 1 + 1 + 1 + 1]? = some (.cells ([3, 2, 1].map (Value.int .i64)).toArray 3 (0, 0))) (h9 : W.heap[w.heap.size + 1 + 1 + 1 + 1 + 1 + 1 + 1 + 1]? = some (.cells ([-2, -2, -3].map (Value.int .i64)).toArray 3 (0, 0))) (h10 : W.heap[w.heap.size + 1 + 1 + 1 + 1 + 1 + 1 + 1 + 1 + 1]? = some (.cells ([0].map (Value.int .i64)).toArray 3 (0, 0))) (h11 : W.heap[w.heap.size + 1 + 1 + 1 + 1 + 1 + 1 + 1 + 1 + 1 + 1]? = some (.cells ([4].map (Value.int .i64)).toArray 3 (0, 0))) (h12 : W.heap[w.heap.size + 1 + 1 + 1 + 1 + 1 + 1 + 1 + 1 + 1 + 1 + 1]? = some (.cells ([-4].map (Value.int .i64)).toArray 3 (0, 0))) (hB : W.heap[w.heap.size + 1 + 1 + 1 + 1 + 1 + 1 + 1 + 1 + 1 + 1 + 1 + 1]? = some (.cells #[.slice none 0 0, .slice (some ⟨w.heap.size, 0, none⟩) 1 1, .slice (some ⟨w.heap.size + 1, 0, none⟩) 1 1, .slice (some ⟨w.heap.size + 1 + 1, 0, none⟩) 2 2, .slice (some ⟨w.heap.size + 1 + 1 + 1, 0, none⟩) 2 2, .slice (some ⟨w.heap.size + 1 + 1 + 1 + 1, 0, none⟩) 2 2, .slice (some ⟨w.heap.size + 1 + 1 + 1 + 1 + 1, 0, none⟩) 2 2, .slice (some ⟨w.heap.size + 1 + 1 + 1 + 1 + 1 + 1, 0, none⟩) 2 2, .slice (some ⟨w.heap.size + 1 + 1 + 1 + 1 + 1 + 1 + 1, 0, none⟩) 3 3, .slice (some ⟨w.heap.size + 1 + 1 + 1 + 1 + 1 + 1 + 1 + 1, 0, none⟩) 3 3, .slice (some ⟨w.heap.size + 1 + 1 + 1 + 1 + 1 + 1 + 1 + 1 + 1, 0, none⟩) 1 1, .slice (some ⟨w.heap.size + 1 + 1 + 1 + 1 + 1 + 1 + 1 + 1 + 1 + 1, 0, none⟩) 1 1, .slice (some ⟨w.heap.size + 1 + 1 + 1 + 1 + 1 + 1 + 1 + 1 + 1 + 1 + 1, 0, none⟩) 1 1] 35 (0, 0))) : RMem (w.heap.size + 1 + 1 + 1 + 1 + 1 + 1 + 1 + 1 + 1 + 1 + 1 + 1) 13 W := by
  intro i hi
  match i, hi with
  | 0, _ => exact ⟨none, 0, [], by rw [cell_of_heapK hB]; rfl, by decide, by decide, rfl, by decide, fun h => by simp at h⟩
  | 1, _ => exact ⟨some ⟨w.heap.size, 0, none⟩, 1, [1], by rw [cell_of_heapK hB]; rfl, by decide, by decide, lit_ints [1] h1 (by decide)⟩
  | 2, _ => exact ⟨some ⟨w.heap.size + 1, 0, none⟩, 1, [-1], by rw [cell_of_heapK hB]; rfl, by decide, by decide, lit_ints [-1] h2 (by decide)⟩
  | 3, _ => exact ⟨some ⟨w.heap.size + 1 + 1, 0, none⟩, 2, [1, 2], by rw [cell_of_heapK hB]; rfl, by decide, by decide, lit_ints [1, 2] h3 (by decide)⟩
  | 4, _ => exact ⟨some ⟨w.heap.size + 1 + 1 + 1, 0, none⟩, 2, [-1, 3], by rw [cell_of_heapK hB]; rfl, by decide, by decide, lit_ints [-1, 3] h4 (by decide)⟩
  | 5, _ => exact ⟨some ⟨w.heap.size + 1 + 1 + 1 + 1, 0, none⟩, 2, [-3, -2], by rw [cell_of_heapK hB]; rfl, by decide, by decide, lit_ints [-3, -2] h5 (by decide)⟩
  | 6, _ => exact ⟨some ⟨w.heap.size + 1 + 1 + 1 + 1 + 1, 0, none⟩, 2, [2, 2], by rw [cell_of_heapK hB]; rfl, by decide, by decide, lit_ints [2, 2] h6 (by decide)⟩
  | 7, _ => exact ⟨some ⟨w.heap.size + 1 + 1 + 1 + 1 + 1 + 1, 0, none⟩, 2, [1, -1], by rw [cell_of_heapK hB]; rfl, by decide, by decide, lit_ints [1, -1] h7 (by decide)⟩
  | 8, _ => exact ⟨some ⟨w.heap.size + 1 + 1 + 1 + 1 + 1 + 1 + 1, 0, none⟩, 3, [3, 2, 1], by rw [cell_of_heapK hB]; rfl, by decide, by decide, lit_ints [3, 2, 1] h8 (by decide)⟩
  | 9, _ => exact ⟨some ⟨w.heap.size + 1 + 1 + 1 + 1 + 1 + 1 + 1 + 1, 0, none⟩, 3, [-2, -2, -3], by rw [cell_of_heapK hB]; rfl, by decide, by decide, lit_ints [-2, -2, -3] h9 (by decide)⟩
  | 10, _ => exact ⟨some ⟨w.heap.size + 1 + 1 + 1 + 1 + 1 + 1 + 1 + 1 + 1, 0, none⟩, 1, [0], by rw [cell_of_heapK hB]; rfl, by decide, by decide, lit_ints [0] h10 (by decide)⟩
  | 11, _ => exact ⟨some ⟨w.heap.size + 1 + 1 + 1 + 1 + 1 + 1 + 1 + 1 + 1 + 1, 0, none⟩, 1, [4], by rw [cell_of_heapK hB]; rfl, by decide, by decide, lit_ints [4] h11 (by decide)⟩
  | 12, _ => exact ⟨some ⟨w.heap.size + 1 + 1 + 1 + 1 + 1 + 1 + 1 + 1 + 1 + 1 + 1, 0, none⟩, 1, [-4], by rw [cell_of_heapK hB]; rfl, by decide, by decide, lit_ints [-4] h12 (by decide)⟩
theorem rmem_lits {w W : World} (h1 : W.heap[w.heap.size]? = some (.cells ([1].map (Value.int .i64)).toArray 3 (0, 0))) (h2 : W.heap[w.heap.size + 1]? = some (.cells ([-1].map (Value.int .i64)).toArray 3 (0, 0))) (h3 : W.heap[w.heap.size + 1 + 1]? = some (.cells ([1, 2].map (Value.int .i64)).toArray 3 (0, 0))) (h4 : W.heap[w.heap.size + 1 + 1 + 1]? = some (.cells ([2, 2, -3].map (Value.int .i64)).toArray 3 (0, 0))) (h5 : W.heap[w.heap.size + 1 + 1 + 1 + 1]? = some (.cells ([1, -1].map (Value.int .i64)).toArray 3 (0, 0))) (h6 : W.heap[w.heap.size + 1 + 1 + 1 + 1 + 1]? = some (.cells ([0].map (Value.int .i64)).toArray 3 (0, 0))) (h7 : W.heap[w.heap.size + 1 + 1 + 1 + 1 + 1 + 1]? = some (.cells ([4].map (Value.int .i64)).toArray 3 (0, 0))) (hB : W.heap[w.heap.size + 1 + 1 + 1 + 1 + 1 + 1 + 1]? = some (.cells #[.slice none 0 0, .slice (some ⟨w.heap.size, 0, none⟩) 1 1, .slice (some ⟨w.heap.size + 1, 0, none⟩) 1 1, .slice (some ⟨w.heap.size + 1 + 1, 0, none⟩) 2 2, .slice (some ⟨w.heap.size + 1 + 1 + 1, 0, none⟩) 3 3, .slice (some ⟨w.heap.size + 1 + 1 + 1 + 1, 0, none⟩) 2 2, .slice (some ⟨w.heap.size + 1 + 1 + 1 + 1 + 1, 0, none⟩) 1 1, .slice (some ⟨w.heap.size + 1 + 1 + 1 + 1 + 1 + 1, 0, none⟩) 1 1] 35 (0, 0))) : RMem (w.heap.size + 1 + 1 + 1 + 1 + 1 + 1 + 1) 8 W := by
  intro i hi
  match i, hi with
  | 0, _ => exact ⟨none, 0, [], by rw [cell_of_heapK hB]; rfl, by decide, by decide, rfl, by decide, fun h => by simp at h⟩
  | 1, _ => exact ⟨some ⟨w.heap.size, 0, none⟩, 1, [1], by rw [cell_of_heapK hB]; rfl, by decide, by decide, lit_ints [1] h1 (by decide)⟩
  | 2, _ => exact ⟨some ⟨w.heap.size + 1, 0, none⟩, 1, [-1], by rw [cell_of_heapK hB]; rfl, by decide, by decide, lit_ints [-1] h2 (by decide)⟩
  | 3, _ => exact ⟨some ⟨w.heap.size + 1 + 1, 0, none⟩, 2, [1, 2], by rw [cell_of_heapK hB]; rfl, by decide, by decide, lit_ints [1, 2] h3 (by decide)⟩
  | 4, _ => exact ⟨some ⟨w.heap.size + 1 + 1 + 1, 0, none⟩, 3, [2, 2, -3], by rw [cell_of_heapK hB]; rfl, by decide, by decide, lit_ints [2, 2, -3] h4 (by decide)⟩
  | 5, _ => exact ⟨some ⟨w.heap.size + 1 + 1 + 1 + 1, 0, none⟩, 2, [1, -1], by rw [cell_of_heapK hB]; rfl, by decide, by decide, lit_ints [1, -1] h5 (by decide)⟩
  | 6, _ => exact ⟨some ⟨w.heap.size + 1 + 1 + 1 + 1 + 1, 0, none⟩, 1, [0], by rw [cell_of_heapK hB]; rfl, by decide, by decide, lit_ints [0] h6 (by decide)⟩
  | 7, _ => exact ⟨some ⟨w.heap.size + 1 + 1 + 1 + 1 + 1 + 1, 0, none⟩, 1, [4], by rw [cell_of_heapK hB]; rfl, by decide, by decide, lit_ints [4] h7 (by decide)⟩
theorem fmem_of {W : World} {f b : Nat} {t t' : TypeId} {A1 A2 A3 : Option Addr} {c1 c2 c3 : Nat} {r1 r2 r3 : List Int} (hf : W.heap[f]? = some (.cells #[.int .i64 3, .slice (some ⟨b, 0, none⟩) 3 3] t (0, 0)))
    (hb : W.heap[b]? = some (.cells #[.slice A1 r1.length c1, .slice A2 r2.length c2, .slice A3 r3.length c3] t' (0, 0)))
    (h1 : r1.length ≤ c1 ∧ GoodRow r1 ∧ Kd.C (Kd.int .i64) W A1 r1.length r1) (h2 : r2.length ≤ c2 ∧ GoodRow r2 ∧ Kd.C (Kd.int .i64) W A2 r2.length r2) (h3 : r3.length ≤ c3 ∧ GoodRow r3 ∧ Kd.C (Kd.int .i64) W A3 r3.length r3) : FMem f b W := by
  refine ⟨⟨[r1, r2, r3], rfl, ?_, ?_⟩, by rw [cell_of_heapK hf]; rfl, by rw [cell_of_heapK hf]; rfl⟩
  · intro r hr
    simp at hr
    rcases hr with rfl | rfl | rfl
    · exact h1.2.1
    · exact h2.2.1
    · exact h3.2.1
  · refine lit_rows [r1, r2, r3] hb (by simp) ?_
    intro j p hp
    match j, hp with
    | 0, hp => cases hp; exact ⟨_, _, rfl, h1.1, h1.2.2⟩
    | 1, hp => cases hp; exact ⟨_, _, rfl, h2.1, h2.2.2⟩
    | 2, hp => cases hp; exact ⟨_, _, rfl, h3.1, h3.2.2⟩
    | q + 3, hp => simp at hp
def Good3 (W : World) (A : Option Addr) (r : List Int) (c : Nat) : Prop := r.length ≤ c ∧ GoodRow r ∧ Kd.C (Kd.int .i64) W A r.length r
theorem below_allocs (w : World) (o o' : Obj) : Below w.heap.size w ((w.alloc o).alloc o').drew := (((Below.refl _ w).alloc (Nat.le_refl _) o).alloc (by simp) o').drew
theorem heap_first (w : World) (o o' : Obj) : ((w.alloc o).alloc o').drew.heap[w.heap.size]? = some o := (heap_old _ _ _ (by simp)).trans (heap_new _ _ _ rfl)
theorem heap_second (w : World) (o o' : Obj) : ((w.alloc o).alloc o').drew.heap[w.heap.size + 1]? = some o' := heap_new _ _ _ (by simp)
theorem good_below {W W' : World} {A : Option Addr} {r : List Int} {c : Nat} (h : r.length ≤ c ∧ GoodRow r ∧ Kd.C (Kd.int .i64) W A r.length r) (hb : Below W.heap.size W W') : r.length ≤ c ∧ GoodRow r ∧ Kd.C (Kd.int .i64) W' A r.length r := ⟨h.1, h.2.1, Kd.C_below h.2.2 hb⟩
set_option maxRecDepth 100000 in
set_option maxHeartbeats 4000000 in
theorem known_any (w : World) : Calls Try.prog 9 #[] w fun e w' => e = .returned (.bool true) ∧ Below w.heap.size w w' := by
  go_enter Try.func9, Try.ntmps9
  go_wp2_with fail
  generalize hB : w.heap.size + 1 + 1 + 1 + 1 + 1 + 1 + 1 + 1 + 1 + 1 + 1 + 1 = B
  go_loopg [2] 13 (fun gg s2 wr => ∃ i : Nat, i ≤ 13 ∧ 13 - i ≤ gg ∧ s2 = .int .i64 i ∧ Aside0 (KMem B w wr))
  case atStart =>
    refine ⟨0, by omega, by omega, rfl, ⟨?_⟩⟩
    suffices h : ∀ W, W = _ → KMem B w W from h _ rfl
    intro W hW
    subst hB
    refine ⟨rmem_rows ?_ ?_ ?_ ?_ ?_ ?_ ?_ ?_ ?_ ?_ ?_ ?_ ?_, ?_⟩
    iterate 13 rw [hW]; repeat (first | exact heap_new _ _ _ (by simp) | refine (heap_old _ _ _ (by simp <;> omega)).trans ?_)
    rw [hW]
    repeat (first | exact Below.refl _ _ | refine Below.alloc ?_ (by simp <;> omega) _)
  case round =>
    obtain ⟨i, hi, hgi, rfl, HM⟩ := hrel
    by_cases h1 : i < 13
    · have h1' : (i : Int) < 13 := by omega
      obtain ⟨A1, c1, r1, q1, l1, g1, k1⟩ := HM.out.cls i h1
      go_wp2_with fail
      refine (known_norm A1 c1 r1 _ k1 l1 g1).mono ?_
      rintro e w1 ⟨rfl, hb⟩
      replace HM := Aside0.mk (HM.out.below hb)
      clear hb q1 l1 g1 k1
      go_wp2_with fail
      go_loopg [3] 13 (fun gg s3 wr => ∃ k : Nat, k ≤ 13 ∧ 13 - k ≤ gg ∧ s3 = .int .i64 k ∧ Aside0 (KMem B w wr))
      case atStart => exact ⟨0, by omega, by omega, rfl, HM⟩
      case round =>
        clear HM
        obtain ⟨k, hk, hgk, rfl, HM⟩ := hrel
        by_cases h2 : k < 13
        · have h2' : (k : Int) < 13 := by omega
          have h3 : (i + 3 * k) % 13 < 13 := Nat.mod_lt _ (by omega)
          obtain ⟨A4, c4, r4, q1, l1, g1, k1⟩ := HM.out.cls i h1
          obtain ⟨A2, c2, r2, q2, l2, g2, k2⟩ := HM.out.cls k h2
          obtain ⟨A3, c3, r3, q3, l3, g3, k3⟩ := HM.out.cls _ h3
          have e1 : ((i : Int) + 3 * (k : Int)).tmod 13 = ((i + 3 * k) % 13 : Nat) := by
            rw [Int.tmod_eq_emod_of_nonneg (by omega)]; omega
          have e2 : (0 : Int) ≤ ((i + 3 * k) % 13 : Nat) := by omega
          have e3 : (((i + 3 * k) % 13 : Nat) : Int) < 13 := by omega
          generalize (i + 3 * k) % 13 = p at *
          have HG := Aside0.mk (And.intro (And.intro l1 (And.intro g1 k1)) (And.intro (And.intro l2 (And.intro g2 k2)) (And.intro l3 (And.intro g3 k3))))
          clear l1 g1 k1 l2 g2 k2 l3 g3 k3
          have hBl : B < wr.heap.size := World.block_lt_of_cell? wr _ q1
          have hBn : ¬ (B = wr.heap.size) := by omega
          have hBn' : ¬ (wr.heap.size = B) := by omega
          go_wp2_with fail
          go_cut [4] from 38 to 125 (fun s4 wx => ∃ f b : Nat, s4 = .pointer (some ⟨f, 0, none⟩) ∧ Aside0 (FMem f b wx) ∧ Aside0 (KMem B w wx))
          case first =>
            go_region
            all_goals (go_wp2_with fail; go_meet)
            all_goals
              have hbw := below_allocs wr
              have hg := HG.out
              first
                | exact ⟨_, _, rfl, ⟨fmem_of (heap_second wr _ _) (heap_first wr _ _) (good_below hg.1 (hbw _ _)) (good_below hg.2.1 (hbw _ _)) (good_below hg.2.2 (hbw _ _))⟩, ⟨HM.out.below (hbw _ _)⟩⟩
                | exact ⟨_, _, rfl, ⟨fmem_of (heap_first wr _ _) (heap_second wr _ _) (good_below hg.1 (hbw _ _)) (good_below hg.2.1 (hbw _ _)) (good_below hg.2.2 (hbw _ _))⟩, ⟨HM.out.below (hbw _ _)⟩⟩
          case rest =>
            obtain ⟨f, b, rfl, HF, HM⟩ := hcut
            clear q1 q2 q3 HG e1 e2 e3 h3 hBl hBn hBn'
            go_wp2_with fail
            generalize hC : wc.heap.size + 1 + 1 + 1 + 1 + 1 + 1 + 1 = C
            go_loopg [73] 8 (fun gg s73 wr => ∃ j : Nat, j ≤ 8 ∧ 8 - j ≤ gg ∧ s73 = .int .i64 j ∧ Aside0 (FMem f b wr) ∧ Aside0 (KMem B w wr) ∧ Aside0 (RMem C 8 wr))
            case atStart =>
              refine ⟨0, by omega, by omega, rfl, ?_⟩
              suffices h : ∀ W, W = _ → (Aside0 (FMem f b W) ∧ Aside0 (KMem B w W) ∧ Aside0 (RMem C 8 W)) from h _ rfl
              intro W hW
              have hb : Below wc.heap.size wc W := by
                rw [hW]
                repeat (first | exact Below.refl _ _ | refine Below.alloc ?_ (by simp <;> omega) _)
              subst hC
              refine ⟨⟨HF.out.below hb⟩, ⟨HM.out.below hb⟩, ⟨rmem_lits ?_ ?_ ?_ ?_ ?_ ?_ ?_ ?_⟩⟩
              all_goals
                rw [hW]
                repeat (first | exact heap_new _ _ _ (by simp) | refine (heap_old _ _ _ (by simp <;> omega)).trans ?_)
            case round =>
              clear HF HM
              obtain ⟨j, hj, hgj, rfl, HF, HM, HC⟩ := hrel
              by_cases h4 : j < 8
              · have h4' : (j : Int) < 8 := by omega
                obtain ⟨A5, c5, r5, q5, l5, g5, k5⟩ := HC.out j h4
                have x0 := HF.out.f0
                have x1 := HF.out.f1
                have HU := Aside0.mk (HF.out.unit k5 l5 g5)
                clear k5 l5 g5
                go_wp2_with fail
                refine (HU.out).mono ?_
                rintro e w2 ⟨rfl, hb⟩
                replace HM := Aside0.mk (HM.out.below hb)
                replace HF := Aside0.mk (HF.out.below hb)
                replace HC := Aside0.mk (HC.out.below hb)
                clear hb q5 x0 x1 HU
                go_wp2_with fail
                go_roundg (8 - (j + 1))
                case measure => omega
                case rel => exact ⟨j + 1, by omega, by omega, by go_num, HF, HM, HC⟩
              · obtain rfl : j = 8 := by omega
                clear h4 HC
                go_wp2_with fail
                go_loopg [7] 8 (fun gg s7 wr => ∃ m : Nat, m ≤ 8 ∧ 8 - m ≤ gg ∧ s7 = .int .i64 m ∧ Aside0 (FMem f b wr) ∧ Aside0 (KMem B w wr))
                case atStart => exact ⟨0, by omega, by omega, rfl, HF, HM⟩
                case round =>
                  clear HF HM
                  obtain ⟨m, hm, hgm, rfl, HF, HM⟩ := hrel
                  by_cases h5 : m < 8
                  · have h5' : (m : Int) < 8 := by omega
                    obtain ⟨q, hq, hq0, hq1⟩ : ∃ q : Nat, (3 : Int) - (k : Int).tmod 2 = q ∧ (q : Int) ≤ 3 ∧ (0 : Int) ≤ q := by
                      refine ⟨3 - k % 2, ?_, by omega, by omega⟩
                      rw [Int.tmod_eq_emod_of_nonneg (by omega)]; omega
                    have hq2 : IntKind.i64.wrap (q : Int) = q := IntWalk.i64_in _ (by omega)
                    have hq3 : q ≤ 3 := by omega
                    go_wp2_with fail
                    generalize (bits BinOp.and IntKind.i64 (↑m) 1 == 1) = y1
                    generalize (bits BinOp.and IntKind.i64 (↑m) 2 == 2) = y2
                    generalize (bits BinOp.and IntKind.i64 (↑m) 4 == 4) = y3
                    have hL : LMem f b B wr.heap.size [y1, y2, y3] w (wr.alloc (Obj.cells #[.bool y1, .bool y2, .bool y3] 4)) := ⟨HF.out.below ((Below.refl _ _).alloc (Nat.le_refl _) _), HM.out.below ((Below.refl _ _).alloc (Nat.le_refl _) _), alloc_bools _ _ [y1, y2, y3] (by simp)⟩
                    generalize (wr.alloc (Obj.cells #[.bool y1, .bool y2, .bool y3] 4)) = W1 at *
                    generalize wr.heap.size = M at *
                    clear HF HM
                    go_cut [7, 122] from 82 to 122 (fun s7 s122 wx => s7 = .int .i64 m ∧ s122 = .bool false ∧ Aside0 (LMem f b B M [y1, y2, y3] w wx))
                    case first =>
                      go_region_held3 (fun W => W.cell? ⟨f, 0, none⟩ = some (.int .i64 3) ∧ W.cell? ⟨f, 1, none⟩ = some (.slice (some ⟨b, 0, none⟩) 3 3) ∧ LMem f b B M [y1, y2, y3] w W)
                        ((go_split_ands; refine LMem.all ?_; first | assumption | (apply LMem.below; rotate_left; assumption; assumption) | (refine LMem.drew ?_; assumption) | (refine LMem.alloc ?_ _; assumption)))
                        (first
                          | (go_at_call 5; refine (LMem.holdq (f := f) (B := B) (ys := [y1, y2, y3]) (w0 := w) ?_ _ ?_).mono ?_; (go_split_ands; assumption); (first | exact hq3 | exact Nat.le_refl _); rintro e w' ⟨rfl, hb⟩)
                          | (go_at_call 7; refine (LMem.sound (f := f) (B := B) (ys := [y1, y2, y3]) (w0 := w) ?_ ?_).mono ?_; (go_split_ands; assumption); (first | exact okRow0 _ | exact okRow1 (heap_new _ _ _ rfl)); rintro e w' ⟨rfl, hb⟩))
                      go_wp2_with fail
                      go_meet
                      exact ⟨rfl, rfl, ⟨(‹_ ∧ _ ∧ LMem f b B M [y1, y2, y3] w _›).2.2⟩⟩
                    case rest =>
                      obtain ⟨rfl, rfl, HL⟩ := hcut
                      go_wp2_with fail
                      go_roundg (8 - (m + 1))
                      case measure => omega
                      case rel => exact ⟨m + 1, by omega, by omega, by go_num, ⟨HL.out.f⟩, ⟨HL.out.k⟩⟩
                  · obtain rfl : m = 8 := by omega
                    clear h5
                    have HU := Aside0.mk (HF.out.check)
                    have x0 := HF.out.f0
                    have x1 := HF.out.f1
                    go_wp2_with fail
                    refine (HU.out).mono ?_
                    rintro e w3 ⟨rfl, hb⟩
                    replace HM := Aside0.mk (HM.out.below hb)
                    clear hb HF HU x0 x1
                    go_wp2_with fail
                    go_roundg (13 - (k + 1))
                    case measure => omega
                    case rel => exact ⟨k + 1, by omega, by omega, by go_num, HM⟩
        · obtain rfl : k = 13 := by omega
          clear h2
          go_wp2_with fail
          go_roundg (13 - (i + 1))
          case measure => omega
          case rel => exact ⟨i + 1, by omega, by omega, by go_num, HM⟩
    · obtain rfl : i = 13 := by omega
      clear h1
      go_wp2_with fail
      go_loopg [128] 5 (fun gg s128 wx => ∃ j : Nat, j ≤ 5 ∧ 5 - j ≤ gg ∧ s128 = .int .i64 j ∧ Aside0 (GMem wr.heap.size w wx))
      case atStart =>
        exact ⟨0, by omega, by omega, rfl, ⟨alloc_ints _ _ [-1, 0, 100000, 100001, 1099511627776] (by decide), HM.out.bel.alloc HM.out.bel.size _⟩⟩
      case round =>
        have hBB := HM.out.bel
        generalize wr.heap.size = C at *
        clear HM hBB
        obtain ⟨j, hj, hgj, rfl, HM⟩ := hrel
        by_cases h1 : j < 5
        · have h1' : (j : Int) < 5 := by omega
          obtain ⟨n, q1, n1, n2⟩ := HM.out.at j h1
          have hn : IntKind.i64.wrap (-n) = -n := IntWalk.i64_in _ (by omega)
          have wf1 : (Lit.int .i64 n).wf = true := wf_of (by omega) (by omega)
          have wf2 : (Lit.int .i64 (-n)).wf = true := wf_of (by omega) (by omega)
          have HW1 := Aside0.mk wf1
          have HW2 := Aside0.mk wf2
          clear wf1 wf2
          go_wp2_with fail
          refine (known_check n none 0 [] _ HW1.out ⟨rfl, by decide, fun h => by simp at h⟩ (Nat.le_refl _) (by simp)).mono ?_
          rintro e w1 ⟨rfl, hb⟩
          replace HM := Aside0.mk (HM.out.below hb)
          clear hb q1
          go_wp2_with fail
          refine (lits_check n HW1.out).mono ?_
          rintro e w2 ⟨rfl, hb⟩
          replace HM := Aside0.mk (HM.out.below (below_two (Below.refl _ _) hb (Nat.le_refl _)))
          clear hb
          go_wp2_with fail
          refine (known_norm_lit _ 3 [n, 3] _ (heap_new _ _ _ rfl) (by simp) (by simp; exact ⟨HW1.out, by decide⟩)).mono ?_
          rintro e w3 ⟨rfl, hb⟩
          replace HM := Aside0.mk ((HM.out.below ((Below.refl _ _).alloc (Nat.le_refl _) _)).below hb)
          clear hb
          go_wp2_with fail
          refine (known_norm_lit _ 3 [-n, 3, 3, -1] _ (heap_new _ _ _ rfl) (by simp) (by simp; exact ⟨HW2.out, by decide, by decide⟩)).mono ?_
          rintro e w4 ⟨rfl, hb⟩
          replace HM := Aside0.mk ((HM.out.below ((Below.refl _ _).alloc (Nat.le_refl _) _)).below hb)
          clear hb
          go_wp2_with fail
          go_roundg (5 - (j + 1))
          case measure => omega
          case rel => exact ⟨j + 1, by omega, by omega, by go_num, HM⟩
        · obtain rfl : j = 5 := by omega
          clear h1
          have hmk : ∀ W : World, (Instr.makeSlice 35 (.int .i64 1000001) (.int .i64 1000001)).run Try.prog W = .ok (.slice (some ⟨W.heap.size, 0, none⟩) 1000001 1000001) (W.alloc (.cells (madeCells #[.int .i64 0] 1000001) 3)) := fun W => run_make_row' (P := Try.prog) 35 3 (.int .i64 0) 8 Try.underlying35 info_int rfl .i64 .i64 1000001 (by omega) (by omega) W
          have HX := Aside0.mk (WideMem.start HM.out.bel)
          clear HM
          go_wp2_with fail
          generalize (wr.alloc (.cells (madeCells #[.int .i64 0] 1000001) 3)) = W0 at *
          generalize wr.heap.size = M at *
          clear hmk
          go_loopg [12] 1000001 (fun gg s12 wx => ∃ j : Nat, j ≤ 1000001 ∧ 1000001 - j ≤ gg ∧ s12 = .int .i64 j ∧ Aside0 (WideMem M j w wx))
          case atStart => exact ⟨0, by omega, by omega, rfl, HX⟩
          case round =>
            clear HX
            obtain ⟨j, hj, hgj, rfl, HX⟩ := hrel
            by_cases h1 : j < 1000001
            · have h1' : (j : Int) < 1000001 := by omega
              have x0 := HX.out.row.cell h1
              have x1 := HX.out.row.frozen j
              rw [if_neg (Nat.lt_irrefl _)] at x0
              have HY := Aside0.mk HX.out.set
              go_wp2_with fail
              go_roundg (1000001 - (j + 1))
              case measure => omega
              case rel => exact ⟨j + 1, by omega, by omega, by go_num, HY⟩
            · obtain rfl : j = 1000001 := by omega
              clear h1
              have HC1 := Aside0.mk (fun W (h : WideMem M 1000001 w W) (n : Nat) (hb : W.heap[n]? = some (.cells #[.slice (some ⟨M, 0, none⟩) 1000001 1000001] 35 (0, 0))) => wide_one M n W h hb)
              have HC2 := Aside0.mk (fun W (h : WideMem M 1000001 w W) (n : Nat) (hb : W.heap[n]? = some (.cells #[.slice (some ⟨M, 1, none⟩) 1000000 1000000] 35 (0, 0))) => wide_two M n W h hb)
              go_wp2_with fail
              refine (HC1.out _ (HX.out.below ((Below.refl _ _).alloc (Nat.le_refl _) _)) _ (heap_new _ _ _ rfl)).mono ?_
              rintro e w5 ⟨rfl, hb⟩
              replace HX := Aside0.mk ((HX.out.below ((Below.refl _ _).alloc (Nat.le_refl _) _)).below hb)
              clear hb
              go_wp2_with fail
              refine (HC2.out _ (HX.out.below ((Below.refl _ _).alloc (Nat.le_refl _) _)) _ (heap_new _ _ _ rfl)).mono ?_
              rintro e w6 ⟨rfl, hb⟩
              replace HX := Aside0.mk ((HX.out.below ((Below.refl _ _).alloc (Nat.le_refl _) _)).below hb)
              clear hb
              go_wp2_with fail
              refine (known_norm_lit _ 3 [-9223372036854775808, 1] _ (heap_new _ _ _ rfl) (by simp) (by decide)).mono ?_
              rintro e w7 ⟨rfl, hb⟩
              replace HX := Aside0.mk ((HX.out.below ((Below.refl _ _).alloc (Nat.le_refl _) _)).below hb)
              clear hb
              go_wp2_with fail
              refine (works_any _).mono ?_
              rintro e w8 ⟨rfl, hb⟩
              replace HX := Aside0.mk (HX.out.below hb)
              clear hb
              go_wp2
              go_ret
              exact ⟨rfl, HX.out.bel⟩
namespace PCnf
def tithebarnlaw16_CnfKnown.f : Option Bool := some true
theorem tithebarnlaw16_CnfKnown.calls (r : Bool) (w : World) (h : tithebarnlaw16_CnfKnown.f = some r) :
    Calls Try.prog 9 #[] w fun e w' => e = .returned (.bool r) ∧ Below w.heap.size w w' := by
  obtain rfl := Option.some.inj h
  exact known_any w
end PCnf
theorem CnfKnown_pure : ∃ k : Nat, PCnf.tithebarnlaw16_CnfKnown.f = some true := ⟨0, rfl⟩
end Go.Proofs.Ytjghhdgebmoohaa
