/- The chapter's examples on refutations hold. -/
import Derived.Test.YtghecdmcghppnaaDoorRefG
import Derived.Test.YtghecdmcghppnaaDoorPWkx2
namespace Go.Proofs.YtghecdmcghppnaaDoor
open Go.RowKit Go.Proofs.YtghecdmcghppnaaDoorW.PrintWords Go.Proofs.YtghecdmcghppnaaDoorW.PrintMore
set_option linter.unusedVariables false
set_option linter.unusedSimpArgs false
theorem heap_cell_at {W : World} {b : Nat} {vs : Array Value} {t : TypeId} {fr : Nat × Nat} (h : W.heap[b]? = some (.cells vs t fr)) {j : Nat} {v : Value} (hv : vs[j]? = some v) : W.cell? ⟨b, j, none⟩ = some v := by simp [World.cell?, h, hv]
theorem add_lit0 (b j : Nat) : (⟨b, 0, none⟩ : Addr).add j = ⟨b, j, none⟩ := by
  rcases j with _ | j <;> simp [Addr.add]
theorem lit_ints {W : World} {b : Nat} {t : TypeId} {fr : Nat × Nat} (xs : List Int) (h : W.heap[b]? = some (.cells (xs.map (Value.int .i64)).toArray t fr)) (hl : xs.length ≤ 9223372036854775807) : Kd.C (Kd.int .i64) W (some ⟨b, 0, none⟩) xs.length xs := by
  refine ⟨rfl, hl, fun _ => ⟨_, rfl, fun j p hp => ⟨[.int .i64 p], rfl, rfl, fun i u hu => ?_⟩⟩⟩
  have hi : i = 0 := by
    rcases i with _ | i
    · rfl
    · simp at hu
  subst hi
  have e : u = .int .i64 p := by simpa using hu.symm
  subst e
  show W.cell? ((⟨b, 0, none⟩ : Addr).add (j * 1 + 0)) = _
  rw [Nat.mul_one, Nat.add_zero, add_lit0]
  exact heap_cell_at h (by simp [hp])
theorem nil_ints (W : World) : Kd.C (Kd.int .i64) W none 0 [] := ⟨rfl, by omega, fun h => absurd h (by omega)⟩
theorem lit_rows {W : World} {b : Nat} {vs : List Value} {t : TypeId} {fr : Nat × Nat} (rows : List (List Int)) (h : W.heap[b]? = some (.cells vs.toArray t fr)) (hl : rows.length ≤ 9223372036854775807)
    (hr : ∀ (j : Nat) (c : List Int), rows[j]? = some c → ∃ A cap, vs[j]? = some (.slice A c.length cap) ∧ c.length ≤ cap ∧ Kd.C (Kd.int .i64) W A c.length c) : Kd.C (Kd.slice 3 (Kd.int .i64)) W (some ⟨b, 0, none⟩) rows.length rows := by
  refine ⟨rfl, hl, fun _ => ⟨_, rfl, fun j p hp => ?_⟩⟩
  obtain ⟨A, cap, hv, hcap, hC⟩ := hr j p hp
  refine ⟨[.slice A p.length cap], rfl, ⟨A, cap, rfl, hcap, hC⟩, fun i u hu => ?_⟩
  have hi : i = 0 := by
    rcases i with _ | i
    · rfl
    · simp at hu
  subst hi
  have e : u = .slice A p.length cap := by simpa using hu.symm
  subst e
  show W.cell? ((⟨b, 0, none⟩ : Addr).add (j * 1 + 0)) = _
  rw [Nat.mul_one, Nat.add_zero, add_lit0]
  exact heap_cell_at h (by simpa using hv)
def four : List (List Int) := [[1, 2], [1, -2], [-1, 2], [-1, -2]]
theorem exC1 : refute_Check.f 2 four [[1], []] = some (2, 0) := by decide +kernel
theorem exC2 : refute_Check.f 2 four [[]] = some (0, 180) := by decide +kernel
theorem exT : refute_Trim.f 2 four [[1, 2], [1], []] = some ([[1], []], 0) := by decide +kernel
theorem exP : refute_Print.f [[1, -2], []] = some (⟨#[49, 32, 45, 50, 32, 48, 10, 48, 10]⟩, 0) := by decide +kernel
theorem exR1 : refute_Parse.f ⟨#[49, 32, 45, 50, 32, 48, 10, 48, 10]⟩ = some ([[1, -2], []], 0) := by decide +kernel
theorem exR2 : refute_Parse.f ⟨#[48, 49, 32, 48, 10]⟩ = some ([], 2) := by decide +kernel
theorem exS1 : PWk.tithebarnlaw18_same.f 9 [[1, -2], []] [[1, -2], []] = some true := by decide +kernel
theorem exS2 : PWk.tithebarnlaw18_same.f 9 [[1], []] [[1], []] = some true := by decide +kernel
/-- What is kept from call to call: the formula. -/
structure FHold (w : World) (g : Nat) (A : Addr) (W : World) : Prop where
  b : Below w.heap.size w W
  bk : W.heap[g]? = some (.cells #[.int .i64 2, .slice (some A) 4 4] 24 (0, 0))
  c : Kd.C (Kd.slice 3 (Kd.int .i64)) W (some A) 4 four
theorem FHold.below {w W W' : World} {g : Nat} {A : Addr} (h : FHold w g A W) (hb : Below W.heap.size W W') : FHold w g A W' :=
  ⟨h.b.trans (hb.mono h.b.size), (hb.block g (Array.getElem?_eq_some_iff.1 h.bk).1).trans h.bk, Kd.C_below h.c hb⟩
theorem FHold.cells {w W : World} {g : Nat} {A : Addr} (h : FHold w g A W) : W.cell? ⟨g, 0, none⟩ = some (.int .i64 2) ∧ W.cell? ⟨g, 1, none⟩ = some (.slice (some A) 4 4) := ⟨heap_cell_at h.bk rfl, heap_cell_at h.bk rfl⟩
theorem FHold.alloc {w W : World} {g : Nat} {A : Addr} (h : FHold w g A W) (o : Obj) : FHold w g A (W.alloc o) := h.below ((Below.refl _ _).alloc (Nat.le_refl _) _)
theorem two_rows (W : World) (xs ys : List Int) (hx : xs.length ≤ 10) (hy : ys.length ≤ 10) : Kd.C (Kd.slice 3 (Kd.int .i64)) (((W.alloc (.cells (xs.map (Value.int .i64)).toArray 3)).alloc (.cells (ys.map (Value.int .i64)).toArray 3)).alloc (.cells #[.slice (some ⟨W.heap.size, 0, none⟩) xs.length xs.length, .slice (some ⟨W.heap.size + 1, 0, none⟩) ys.length ys.length] 40)) (some ⟨W.heap.size + 1 + 1, 0, none⟩) 2 [xs, ys] := by
  have e : W.heap.size + 1 + 1 = ((W.alloc (.cells (xs.map (Value.int .i64)).toArray 3)).alloc (.cells (ys.map (Value.int .i64)).toArray 3)).heap.size := by simp
  rw [e]
  refine lit_rows (vs := [.slice (some ⟨W.heap.size, 0, none⟩) xs.length xs.length, .slice (some ⟨W.heap.size + 1, 0, none⟩) ys.length ys.length]) [xs, ys] (heap_alloc_new _ _) (by simp) ?_
  intro j c hc
  rcases j with _ | _ | j
  · obtain rfl : xs = c := by simpa using hc
    refine ⟨_, _, rfl, Nat.le_refl _, Kd.C_alloc (Kd.C_alloc (lit_ints xs (heap_alloc_new _ _) (by omega)) _) _⟩
  · obtain rfl : ys = c := by simpa using hc
    refine ⟨_, _, rfl, Nat.le_refl _, Kd.C_alloc (lit_ints ys (by rw [show W.heap.size + 1 = (W.alloc (.cells (xs.map (Value.int .i64)).toArray 3)).heap.size by simp]; exact heap_alloc_new _ _) (by omega)) _⟩
  · simp at hc
theorem one_row (W : World) (xs : List Int) (hx : xs.length ≤ 10) : Kd.C (Kd.slice 3 (Kd.int .i64)) ((W.alloc (.cells (xs.map (Value.int .i64)).toArray 3)).alloc (.cells #[.slice (some ⟨W.heap.size, 0, none⟩) xs.length xs.length] 40)) (some ⟨W.heap.size + 1, 0, none⟩) 1 [xs] := by
  have e : W.heap.size + 1 = (W.alloc (.cells (xs.map (Value.int .i64)).toArray 3)).heap.size := by simp
  rw [e]
  refine lit_rows (vs := [.slice (some ⟨W.heap.size, 0, none⟩) xs.length xs.length]) [xs] (heap_alloc_new _ _) (by simp) ?_
  intro j c hc
  rcases j with _ | j
  · obtain rfl : xs = c := by simpa using hc
    exact ⟨_, _, rfl, Nat.le_refl _, Kd.C_alloc (lit_ints xs (heap_alloc_new _ _) (by omega)) _⟩
  · simp at hc
theorem row_nil (W : World) (xs : List Int) (hx : xs.length ≤ 10) : Kd.C (Kd.slice 3 (Kd.int .i64)) ((W.alloc (.cells (xs.map (Value.int .i64)).toArray 3)).alloc (.cells #[.slice (some ⟨W.heap.size, 0, none⟩) xs.length xs.length, .slice none 0 0] 40)) (some ⟨W.heap.size + 1, 0, none⟩) 2 [xs, []] := by
  have e : W.heap.size + 1 = (W.alloc (.cells (xs.map (Value.int .i64)).toArray 3)).heap.size := by simp
  rw [e]
  refine lit_rows (vs := [.slice (some ⟨W.heap.size, 0, none⟩) xs.length xs.length, .slice none 0 0]) [xs, []] (heap_alloc_new _ _) (by simp) ?_
  intro j c hc
  rcases j with _ | _ | j
  · obtain rfl : xs = c := by simpa using hc
    exact ⟨_, _, rfl, Nat.le_refl _, Kd.C_alloc (lit_ints xs (heap_alloc_new _ _) (by omega)) _⟩
  · obtain rfl : ([] : List Int) = c := by simpa using hc
    exact ⟨_, _, rfl, Nat.le_refl _, nil_ints _⟩
  · simp at hc
theorem three_rows (W : World) (xs ys zs : List Int) (hx : xs.length ≤ 10) (hy : ys.length ≤ 10) (hz : zs.length ≤ 10) : Kd.C (Kd.slice 3 (Kd.int .i64)) ((((W.alloc (.cells (xs.map (Value.int .i64)).toArray 3)).alloc (.cells (ys.map (Value.int .i64)).toArray 3)).alloc (.cells (zs.map (Value.int .i64)).toArray 3)).alloc (.cells #[.slice (some ⟨W.heap.size, 0, none⟩) xs.length xs.length, .slice (some ⟨W.heap.size + 1, 0, none⟩) ys.length ys.length, .slice (some ⟨W.heap.size + 1 + 1, 0, none⟩) zs.length zs.length] 40)) (some ⟨W.heap.size + 1 + 1 + 1, 0, none⟩) 3 [xs, ys, zs] := by
  have e : W.heap.size + 1 + 1 + 1 = (((W.alloc (.cells (xs.map (Value.int .i64)).toArray 3)).alloc (.cells (ys.map (Value.int .i64)).toArray 3)).alloc (.cells (zs.map (Value.int .i64)).toArray 3)).heap.size := by simp
  rw [e]
  refine lit_rows (vs := [.slice (some ⟨W.heap.size, 0, none⟩) xs.length xs.length, .slice (some ⟨W.heap.size + 1, 0, none⟩) ys.length ys.length, .slice (some ⟨W.heap.size + 1 + 1, 0, none⟩) zs.length zs.length]) [xs, ys, zs] (heap_alloc_new _ _) (by simp) ?_
  intro j c hc
  rcases j with _ | _ | _ | j
  · obtain rfl : xs = c := by simpa using hc
    exact ⟨_, _, rfl, Nat.le_refl _, Kd.C_alloc (Kd.C_alloc (Kd.C_alloc (lit_ints xs (heap_alloc_new _ _) (by omega)) _) _) _⟩
  · obtain rfl : ys = c := by simpa using hc
    exact ⟨_, _, rfl, Nat.le_refl _, Kd.C_alloc (Kd.C_alloc (lit_ints ys (by rw [show W.heap.size + 1 = (W.alloc (.cells (xs.map (Value.int .i64)).toArray 3)).heap.size by simp]; exact heap_alloc_new _ _) (by omega)) _) _⟩
  · obtain rfl : zs = c := by simpa using hc
    exact ⟨_, _, rfl, Nat.le_refl _, Kd.C_alloc (lit_ints zs (by rw [show W.heap.size + 1 + 1 = ((W.alloc (.cells (xs.map (Value.int .i64)).toArray 3)).alloc (.cells (ys.map (Value.int .i64)).toArray 3)).heap.size by simp]; exact heap_alloc_new _ _) (by omega)) _⟩
  · simp at hc
def W4 (w : World) : World := ((((w.alloc (.cells #[.int .i64 1, .int .i64 2] 3)).alloc (.cells #[.int .i64 1, .int .i64 (-2)] 3)).alloc (.cells #[.int .i64 (-1), .int .i64 2] 3)).alloc (.cells #[.int .i64 (-1), .int .i64 (-2)] 3)).alloc (.cells #[.slice (some ⟨w.heap.size, 0, none⟩) 2 2, .slice (some ⟨w.heap.size + 1, 0, none⟩) 2 2, .slice (some ⟨w.heap.size + 1 + 1, 0, none⟩) 2 2, .slice (some ⟨w.heap.size + 1 + 1 + 1, 0, none⟩) 2 2] 40)
theorem four_rows (w : World) : Kd.C (Kd.slice 3 (Kd.int .i64)) (W4 w) (some ⟨w.heap.size + 1 + 1 + 1 + 1, 0, none⟩) 4 four := by
  have h : ∀ (W : World) (xs : List Int), xs.length ≤ 10 → Kd.C (Kd.int .i64) (W.alloc (.cells (xs.map (Value.int .i64)).toArray 3)) (some ⟨W.heap.size, 0, none⟩) xs.length xs := fun W xs hx => lit_ints xs (heap_alloc_new _ _) (by omega)
  have e4 : w.heap.size + 1 + 1 + 1 + 1 = ((((w.alloc (.cells #[.int .i64 1, .int .i64 2] 3)).alloc (.cells #[.int .i64 1, .int .i64 (-2)] 3)).alloc (.cells #[.int .i64 (-1), .int .i64 2] 3)).alloc (.cells #[.int .i64 (-1), .int .i64 (-2)] 3)).heap.size := by simp
  have hb := heap_alloc_new ((((w.alloc (.cells #[.int .i64 1, .int .i64 2] 3)).alloc (.cells #[.int .i64 1, .int .i64 (-2)] 3)).alloc (.cells #[.int .i64 (-1), .int .i64 2] 3)).alloc (.cells #[.int .i64 (-1), .int .i64 (-2)] 3)) (.cells #[.slice (some ⟨w.heap.size, 0, none⟩) 2 2, .slice (some ⟨w.heap.size + 1, 0, none⟩) 2 2, .slice (some ⟨w.heap.size + 1 + 1, 0, none⟩) 2 2, .slice (some ⟨w.heap.size + 1 + 1 + 1, 0, none⟩) 2 2] 40)
  rw [← e4] at hb
  refine lit_rows (vs := [.slice (some ⟨w.heap.size, 0, none⟩) 2 2, .slice (some ⟨w.heap.size + 1, 0, none⟩) 2 2, .slice (some ⟨w.heap.size + 1 + 1, 0, none⟩) 2 2, .slice (some ⟨w.heap.size + 1 + 1 + 1, 0, none⟩) 2 2]) four hb (by decide) ?_
  intro j c hc
  unfold W4
  rcases j with _ | _ | _ | _ | j
  · obtain rfl : [1, 2] = c := by simpa [four] using hc
    exact ⟨_, _, rfl, by decide, Kd.C_alloc (Kd.C_alloc (Kd.C_alloc (Kd.C_alloc (h w [1, 2] (by decide)) _) _) _) _⟩
  · obtain rfl : [1, -2] = c := by simpa [four] using hc
    refine ⟨_, _, rfl, by decide, Kd.C_alloc (Kd.C_alloc (Kd.C_alloc ?_ _) _) _⟩
    have := h (w.alloc (.cells #[.int .i64 1, .int .i64 2] 3)) [1, -2] (by decide)
    simpa using this
  · obtain rfl : [-1, 2] = c := by simpa [four] using hc
    refine ⟨_, _, rfl, by decide, Kd.C_alloc (Kd.C_alloc ?_ _) _⟩
    have := h ((w.alloc (.cells #[.int .i64 1, .int .i64 2] 3)).alloc (.cells #[.int .i64 1, .int .i64 (-2)] 3)) [-1, 2] (by decide)
    simpa using this
  · obtain rfl : [-1, -2] = c := by simpa [four] using hc
    refine ⟨_, _, rfl, by decide, Kd.C_alloc ?_ _⟩
    have := h (((w.alloc (.cells #[.int .i64 1, .int .i64 2] 3)).alloc (.cells #[.int .i64 1, .int .i64 (-2)] 3)).alloc (.cells #[.int .i64 (-1), .int .i64 2] 3)) [-1, -2] (by decide)
    simpa using this
  · simp [four] at hc
theorem W4_below (w : World) : Below w.heap.size w (W4 w) := by
  unfold W4
  exact ((((((Below.refl _ w).alloc (Nat.le_refl _) _).alloc (by simp) _).alloc (by simp; omega) _).alloc (by simp; omega) _).alloc (by simp; omega) _)
theorem W4_size (w : World) : (W4 w).heap.size = w.heap.size + 5 := by unfold W4; simp
set_option maxRecDepth 100000 in
set_option maxHeartbeats 8000000 in
theorem works_any (w : World) (hT : VTabs w) : Calls Tryd.prog 7 #[] w fun e w' => e = .returned (.bool true) ∧ Below w.heap.size w w' := by
  have HT := Aside0.mk hT
  have HF : Aside0 (FHold w (w.heap.size + 1 + 1 + 1 + 1 + 1) ⟨w.heap.size + 1 + 1 + 1 + 1, 0, none⟩ ((W4 w).alloc (.cells #[.int .i64 2, .slice (some ⟨w.heap.size + 1 + 1 + 1 + 1, 0, none⟩) 4 4] 24))) :=
    ⟨⟨(W4_below w).alloc (W4_below w).size _, by have := heap_alloc_new (W4 w) (.cells #[.int .i64 2, .slice (some ⟨w.heap.size + 1 + 1 + 1 + 1, 0, none⟩) 4 4] 24); rwa [W4_size] at this, Kd.C_alloc (four_rows w) _⟩⟩
  have hsz : ((W4 w).alloc (.cells #[.int .i64 2, .slice (some ⟨w.heap.size + 1 + 1 + 1 + 1, 0, none⟩) 4 4] 24)).heap.size = w.heap.size + 6 := by rw [World.size_alloc, W4_size]
  have HSZ := Aside0.mk hsz
  clear hT hsz
  go_enter Tryd.func7, Tryd.ntmps7
  go_wp2_with (go_at_call 8; refine Aside0.out ?_)
  refine ⟨?_⟩
  have key := two_rows ((W4 w).alloc (.cells #[.int .i64 2, .slice (some ⟨w.heap.size + 1 + 1 + 1 + 1, 0, none⟩) 4 4] 24)) [1] [] (by decide) (by decide)
  rw [HSZ.out] at key
  have HF1 := Aside0.mk (((HF.out.alloc (.cells #[.int .i64 1] 3)).alloc (.cells #[] 3)).alloc (.cells #[.slice (some ⟨w.heap.size + 6, 0, none⟩) 1 1, .slice (some ⟨w.heap.size + 6 + 1, 0, none⟩) 0 0] 40))
  refine (refute_Check.calls 2 (some ⟨w.heap.size + 1 + 1 + 1 + 1, 0, none⟩) 4 four (some ⟨w.heap.size + 6 + 1 + 1, 0, none⟩) 2 [[1], []] 2 0 _ HF1.out.c (by decide) key (by decide) exC1).mono ?_
  rintro e w1 ⟨rfl, hb⟩
  have HF2 := Aside0.mk (HF1.out.below hb)
  obtain ⟨x0, x1⟩ := HF2.out.cells
  clear hb key HF1 HF
  go_wp2_with (go_at_call 8; refine Aside0.out ?_)
  refine ⟨?_⟩
  clear x0 x1
  have key := one_row w1 [] (by decide)
  have HF3 := Aside0.mk ((HF2.out.alloc (.cells #[] 3)).alloc (.cells #[.slice (some ⟨w1.heap.size, 0, none⟩) 0 0] 40))
  refine (refute_Check.calls 2 (some ⟨w.heap.size + 1 + 1 + 1 + 1, 0, none⟩) 4 four (some ⟨w1.heap.size + 1, 0, none⟩) 1 [[]] 0 180 _ HF3.out.c (by decide) key (by decide) exC2).mono ?_
  rintro e w2 ⟨rfl, hb⟩
  have HF4 := Aside0.mk (HF3.out.below hb)
  clear hb key HF3 HF2
  go_wp2_with (go_at_call 12; refine Aside0.out ?_)
  refine ⟨?_⟩
  have key := two_rows w2 [1, -2] [] (by decide) (by decide)
  have HF5 := Aside0.mk (((HF4.out.alloc (.cells #[.int .i64 1, .int .i64 (-2)] 3)).alloc (.cells #[] 3)).alloc (.cells #[.slice (some ⟨w2.heap.size, 0, none⟩) 2 2, .slice (some ⟨w2.heap.size + 1, 0, none⟩) 0 0] 40))
  refine (refute_Print.calls (some ⟨w2.heap.size + 1 + 1, 0, none⟩) 2 [[1, -2], []] _ 0 _ key (by decide) (HT.out.below HF5.out.b) exP).mono ?_
  rintro e w3 ⟨rfl, hb⟩
  have HF6 := Aside0.mk (HF5.out.below hb)
  clear hb key HF5 HF4
  go_wp2_with (go_at_call 17; refine Aside0.out ?_)
  refine ⟨?_⟩
  refine (refute_Parse.calls _ _ _ _ (HT.out.below HF6.out.b) exR1).mono ?_
  rintro e w4 ⟨v4, rfl, hS, hb⟩
  obtain ⟨A4, c4, rfl, hc4, hC4⟩ := Kd.S_reads hS
  have HF7 := Aside0.mk (HF6.out.below hb)
  have HC4 := Aside0.mk hC4
  have HL4 := Aside0.mk hc4
  clear hb HF6 hS hC4 hc4
  go_wp2_with (go_at_call 17; refine Aside0.out ?_)
  refine ⟨?_⟩
  refine (refute_Parse.calls _ _ _ _ (HT.out.below HF7.out.b) exR2).mono ?_
  rintro e w5 ⟨v5, rfl, hS, hb⟩
  obtain ⟨A5, c5, rfl, hc5, hC5⟩ := Kd.S_reads hS
  have HF8 := Aside0.mk (HF7.out.below hb)
  have HC5 := Aside0.mk (Kd.C_below HC4.out hb)
  obtain ⟨x0, x1⟩ := HF8.out.cells
  clear hb HF7 hS hC5 hc5 HC4
  go_wp2_with (go_at_call 13; refine Aside0.out ?_)
  refine ⟨?_⟩
  clear x0 x1
  have key := three_rows w5 [1, 2] [1] [] (by decide) (by decide) (by decide)
  have HF9 := Aside0.mk ((((HF8.out.alloc (.cells #[.int .i64 1, .int .i64 2] 3)).alloc (.cells #[.int .i64 1] 3)).alloc (.cells #[] 3)).alloc (.cells #[.slice (some ⟨w5.heap.size, 0, none⟩) 2 2, .slice (some ⟨w5.heap.size + 1, 0, none⟩) 1 1, .slice (some ⟨w5.heap.size + 1 + 1, 0, none⟩) 0 0] 40))
  have HC6 := Aside0.mk (Kd.C_alloc (Kd.C_alloc (Kd.C_alloc (Kd.C_alloc HC5.out (.cells #[.int .i64 1, .int .i64 2] 3)) (.cells #[.int .i64 1] 3)) (.cells #[] 3)) (.cells #[.slice (some ⟨w5.heap.size, 0, none⟩) 2 2, .slice (some ⟨w5.heap.size + 1, 0, none⟩) 1 1, .slice (some ⟨w5.heap.size + 1 + 1, 0, none⟩) 0 0] 40))
  refine (refute_Trim.calls 2 (some ⟨w.heap.size + 1 + 1 + 1 + 1, 0, none⟩) 4 four (some ⟨w5.heap.size + 1 + 1 + 1, 0, none⟩) 3 [[1, 2], [1], []] _ _ _ HF9.out.c (by decide) key (by decide) exT).mono ?_
  rintro e w6 ⟨v6, rfl, hS, hb⟩
  obtain ⟨A6, c6, rfl, hc6, hC6⟩ := Kd.S_reads hS
  have HF10 := Aside0.mk (HF9.out.below hb)
  have HC7 := Aside0.mk (Kd.C_below HC6.out hb)
  have HD7 := Aside0.mk hC6
  have HLD := Aside0.mk hc6
  clear hb key HF9 HF8 hS hC6 hc6 HC6 HC5
  go_wp2_with (go_at_call 15; refine Aside0.out ?_)
  refine ⟨?_⟩
  have key := row_nil w6 [1, -2] (by decide)
  refine (PWk.tithebarnlaw18_same.calls 9 A4 c4 [[1, -2], []] (some ⟨w6.heap.size + 1, 0, none⟩) 2 [[1, -2], []] true _ (Kd.C_alloc (Kd.C_alloc HC7.out _) _) HL4.out key (by decide) exS1).mono ?_
  rintro e w7 ⟨rfl, ⟨n7, rfl⟩⟩
  clear key
  go_wp2_with (go_at_call 15; refine Aside0.out ?_)
  refine ⟨?_⟩
  have key := row_nil (((w6.alloc (.cells #[.int .i64 1, .int .i64 (-2)] 3)).alloc (.cells #[.slice (some ⟨w6.heap.size, 0, none⟩) 2 2, .slice none 0 0] 40)).drewN n7) [1] (by decide)
  rw [show (((w6.alloc (.cells #[.int .i64 1, .int .i64 (-2)] 3)).alloc (.cells #[.slice (some ⟨w6.heap.size, 0, none⟩) 2 2, .slice none 0 0] 40)).drewN n7).heap.size = w6.heap.size + 1 + 1 by simp] at key
  have HF11 := Aside0.mk ((((HF10.out.alloc (.cells #[.int .i64 1, .int .i64 (-2)] 3)).alloc (.cells #[.slice (some ⟨w6.heap.size, 0, none⟩) 2 2, .slice none 0 0] 40)).below (pw_below_drewN (Below.refl _ _) n7)).alloc (.cells #[.int .i64 1] 3))
  refine (PWk.tithebarnlaw18_same.calls 9 A6 c6 [[1], []] (some ⟨w6.heap.size + 1 + 1 + 1, 0, none⟩) 2 [[1], []] true _ (Kd.C_alloc (Kd.C_alloc (Kd.C_drewN (Kd.C_alloc (Kd.C_alloc HD7.out _) _) _) _) _) HLD.out key (by decide) exS2).mono ?_
  rintro e w8 ⟨rfl, ⟨n8, rfl⟩⟩
  clear key
  go_wp2_with fail
  go_ret
  exact ⟨rfl, pw_below_drewN (HF11.out.alloc _).b n8⟩
def tithebarnlaw18_works.f : Option Bool := some true
theorem tithebarnlaw18_works.calls (r : Bool) (w : World) (hT : VTabs w) (h : tithebarnlaw18_works.f = some r) : Calls Tryd.prog 7 #[] w fun e w' => e = .returned (.bool r) ∧ Below w.heap.size w w' := by
  unfold tithebarnlaw18_works.f at h
  cases h
  exact works_any w hT
end Go.Proofs.YtghecdmcghppnaaDoor
