/- refute.Parse: a text read as a row of clauses. -/
import Derived.Test.YtghecdmcghppnaaDoorRefC
import Derived.Test.YtghecdmcghppnaaDoorRefD
import Derived.Test.YtghecdmcghppnaaDoorRngO
import Derived.Test.YtghecdmcghppnaaDoorWApart
import Derived.Laws.EntriesVeiled
namespace Go.Proofs.YtghecdmcghppnaaDoor
open Go.RowKit Go.Shelf Go.Proofs.YtghecdmcghppnaaDoorW.PrintWords Go.Proofs.YtghecdmcghppnaaDoorW.PrintLast Go.Proofs.YtghecdmcghppnaaDoorW.PrintMore
set_option linter.unusedVariables false
set_option linter.unusedSimpArgs false
theorem atoi_any (s : ByteArray) (hs : s.size ≤ 4294967280) (w : World) (hT : VTabs w) :
    Calls Tryd.prog 36 #[.string s] w fun e w' => ∃ v ev, e = .returned (.tuple #[.int .i64 v, ev]) ∧ Below w.heap.size w w' ∧ ((ev = .nilIface ∧ Lib.atoiAll s.data.toList = .ok v) ∨ ((∃ p, ev = .iface 105 p) ∧ ∀ u, Lib.atoiAll s.data.toList ≠ .ok u)) := by
  cases h : Lib.atoiAll s.data.toList
  · rename_i v
    refine (Tryd.strconv_Atoi_ok s (by omega) v h w).mono ?_
    rintro e w' ⟨rfl, hw⟩
    refine ⟨v, .nilIface, rfl, ?_, .inl ⟨rfl, rfl⟩⟩
    rcases hw with rfl | ⟨t, rfl⟩
    · exact Below.refl _ _
    · exact Lib.bytesWorld_below _ _ _
  · obtain ⟨ev, h1, h2⟩ := hT.es
    refine (Tryd.strconv_Atoi_syntax s (by omega) h ev w h1 h2).mono ?_
    rintro e w' ⟨N, rfl, _, _, hb⟩
    exact ⟨_, _, rfl, hb, .inr ⟨⟨_, rfl⟩, fun u hu => by cases hu⟩⟩
  · obtain ⟨ev, h1, h2⟩ := hT.er
    refine (Tryd.strconv_Atoi_range s (by omega) h ev w h1 h2).mono ?_
    rintro e w' ⟨N, rfl, _, _, hb⟩
    exact ⟨_, _, rfl, hb, .inr ⟨⟨_, rfl⟩, fun u hu => by cases hu⟩⟩
def wordsB (l : List UInt8) : List ByteArray := (afterOn 32 l).map fun l => ⟨l.toArray⟩
def linesB (s : ByteArray) : List ByteArray := (linesOn s.data.toList).map fun l => ⟨l.toArray⟩
theorem map_lists (ls : List (List UInt8)) : (ls.map fun l => (⟨l.toArray⟩ : ByteArray)).map (·.data.toList) = ls := by
  rw [List.map_map]
  conv => rhs; rw [← List.map_id ls]
  apply List.map_congr_left
  intro l _
  rfl
theorem afterOn_le (c : UInt8) : ∀ (l p : List UInt8), p ∈ afterOn c l → p.length ≤ l.length
  | [], p, h => by
    simp [afterOn] at h
    simp [h]
  | b :: t, p, h => by
    have ih := afterOn_le c t
    unfold afterOn at h
    split at h
    · rcases List.mem_cons.1 h with h | h
      · simp [h]
      · have := ih p h
        simp
        omega
    · split at h
      · next q r e =>
        rw [e] at ih
        rcases List.mem_cons.1 h with h | h
        · have := ih q (List.mem_cons_self ..)
          simp [h]
          omega
        · have := ih p (List.mem_cons_of_mem _ h)
          simp
          omega
      · simp at h
        simp [h]
theorem linesOn_le : ∀ (l p : List UInt8), p ∈ linesOn l → p.length ≤ l.length
  | [], p, h => by simp [linesOn] at h
  | b :: t, p, h => by
    have ih := linesOn_le t
    unfold linesOn at h
    split at h
    · rcases List.mem_cons.1 h with h | h
      · simp [h]
      · have := ih p h
        simp
        omega
    · split at h
      · next q r e =>
        rw [e] at ih
        rcases List.mem_cons.1 h with h | h
        · have := ih q (List.mem_cons_self ..)
          simp [h]
          omega
        · have := ih p (List.mem_cons_of_mem _ h)
          simp
          omega
      · simp at h
        simp [h]
theorem pieces_le {ls : List (List UInt8)} {n : Nat} (h : ∀ p ∈ ls, p.length ≤ n) {i : Nat} {x : ByteArray} (hx : (ls.map fun l => (⟨l.toArray⟩ : ByteArray))[i]? = some x) : x.size ≤ n := by
  rw [List.getElem?_map] at hx
  obtain ⟨l, hl, e⟩ := Option.map_eq_some_iff.1 hx
  have := h l (List.mem_of_getElem? hl)
  subst e
  rw [Lib.size_eq]
  simpa using this
def rowsF : List ByteArray → List (List Int) → Option (List (List Int))
  | [], acc => some acc
  | x :: xs, acc => match rowF (wordsB (Lib.trimSuffix x.data.toList [48, 10])) [] with
    | none => none
    | some row => if Lib.hasSuffix x.data.toList [48, 10] = true then rowsF xs (acc ++ [row]) else none
def outF (o : Option (List (List Int))) : List (List Int) × Int := match o with
  | none => ([], 2)
  | some r => (r, 0)
def refute_Parse.f (a0 : ByteArray) : Option (List (List Int) × Int) := if a0.size ≤ 1000000 then some (outF (rowsF (linesB a0) [])) else none
/-- Between two rounds of the outer loop; when a round has left. -/
def OutI (w : World) (res : Option (List (List Int))) (xs : List ByteArray) (i : Nat) (W : World) : Prop :=
  ∃ acc rv, Boxed W w.heap.size 22 (.slice none 0 0) ∧ Boxed W (w.heap.size + 1) 27 (.int .i64 0) ∧ Boxed W (w.heap.size + 2) 22 rv ∧
    Kd.S (Kd.slice 3 (Kd.int .i64)) 40 W (w.heap.size + 6) (fun _ => True) rv acc ∧ acc.length ≤ i ∧ rowsF (xs.drop i) acc = res ∧ Below w.heap.size w W
def OutX (w : World) (res : Option (List (List Int))) (c : Code) (W : World) : Prop :=
  c = .ret ∧ res = none ∧ Boxed W w.heap.size 22 (.slice none 0 0) ∧ Boxed W (w.heap.size + 1) 27 (.int .i64 2) ∧ Below w.heap.size w W
theorem Below_oth {N lo hi : Nat} {w A B : World} (h : Below N w A) (k : Oth lo hi A B) (hN : N ≤ lo) (hz : N ≤ w.heap.size) : Below N w B :=
  ⟨k.os.trans h.os, k.tape.trans h.tape, k.output.trans h.output, Nat.le_trans h.size k.size, fun j hj => (k.same j (by have := h.size; omega) (by omega)).trans (h.block j hj)⟩
theorem Boxed_oth {lo hi b : Nat} {A B : World} {t : TypeId} {v : Value} (h : Boxed A b t v) (k : Oth lo hi A B) (hb : b < lo) : Boxed B b t v := (k.same b (Boxed.lt h) (by omega)).trans h
theorem OutI.oth {w : World} {res : Option (List (List Int))} {xs : List ByteArray} {i : Nat} {A B : World} (h : OutI w res xs i A) (k : Oth (w.heap.size + 3) (w.heap.size + 6) A B) : OutI w res xs i B := by
  obtain ⟨acc, rv, h1, h2, h3, h4, h5, h6, h7⟩ := h
  exact ⟨acc, rv, Boxed_oth h1 k (by omega), Boxed_oth h2 k (by omega), Boxed_oth h3 k (by omega), Kd.S_mono (Kd.S_step (Kd.S_bound h4) (fun j hj hlt => k.same j hlt (by have := hj.2.1; omega))) (fun _ hk => hk.1), h5, h6, Below_oth h7 k (by omega) (Nat.le_refl _)⟩
theorem OutX.oth {w : World} {res : Option (List (List Int))} {c : Code} {A B : World} (h : OutX w res c A) (k : Oth (w.heap.size + 3) (w.heap.size + 6) A B) : OutX w res c B := by
  obtain ⟨h0, h1, h2, h3, h4⟩ := h
  exact ⟨h0, h1, Boxed_oth h2 k (by omega), Boxed_oth h3 k (by omega), Below_oth h4 k (by omega) (Nat.le_refl _)⟩
/-- The same of the inner loop, of a round that began in V. -/
def InI (V : World) (o : Option (List Int)) (ys : List ByteArray) (j : Nat) (W : World) : Prop :=
  ∃ row rv, Boxed W V.heap.size 40 rv ∧ Kd.R (Kd.int .i64) 3 W (V.heap.size + 5) (fun _ => True) rv row ∧ row.length ≤ j ∧ rowF (ys.drop j) row = o ∧ Below V.heap.size V W
def InX (N : Nat) (V : World) (o : Option (List Int)) (c : Code) (W : World) : Prop :=
  c = .ret ∧ o = none ∧ Boxed W N 22 (.slice none 0 0) ∧ Boxed W (N + 1) 27 (.int .i64 2) ∧ Oth N (N + 2) V W
theorem InI.oth {V : World} {o : Option (List Int)} {ys : List ByteArray} {j : Nat} {A B : World} (h : InI V o ys j A) (k : Oth (V.heap.size + 1) (V.heap.size + 5) A B) : InI V o ys j B := by
  obtain ⟨row, rv, h1, h2, h3, h4, h5⟩ := h
  exact ⟨row, rv, Boxed_oth h1 k (by omega), Kd.R_mono (Kd.R_step (Kd.R_bound h2) (fun j hj hlt => k.same j hlt (by have := hj.2.1; omega))) (fun _ hk => hk.1), h3, h4, Below_oth h5 k (by omega) (Nat.le_refl _)⟩
theorem InX.oth {N : Nat} {V : World} {o : Option (List Int)} {c : Code} {A B : World} (hN : N + 2 ≤ V.heap.size) (h : InX N V o c A) (k : Oth (V.heap.size + 1) (V.heap.size + 5) A B) : InX N V o c B := by
  obtain ⟨h0, h1, h2, h3, h4⟩ := h
  exact ⟨h0, h1, Boxed_oth h2 k (by omega), Boxed_oth h3 k (by omega), ⟨k.os.trans h4.os, k.tape.trans h4.tape, k.output.trans h4.output, Nat.le_trans h4.size k.size, fun j hj hn => (k.same j (by have := h4.size; omega) (by omega)).trans (h4.same j hj hn)⟩⟩
/-- A round of the inner loop that leaves. -/
theorem in_bad {N : Nat} {V A A3 : World} (hV : N + 2 ≤ V.heap.size) (e5 : Below V.heap.size V A) (hb : Below A.heap.size A A3) (g1 : Boxed A N 22 (.slice none 0 0)) (g2 : Boxed A (N + 1) 27 (.int .i64 0)) {L : Nat} {I : Nat → World → Prop} {j : Nat} (hL : V.heap.size ≤ L) (hLA : L < A.heap.size) (a : Act) :
    roundQ (V.heap.size + 1) (L + 1) I (InX N V none) j A .ret a ((A3.setCell ⟨N, 0, none⟩ (.slice none 0 0)).setCell ⟨N + 1, 0, none⟩ (.int .i64 2)) := by
  have hs := e5.size
  have hz := hb.size
  have k1 : Boxed A3 N 22 (.slice none 0 0) := (hb.block _ (by omega)).trans g1
  have k2 : Boxed A3 (N + 1) 27 (.int .i64 0) := (hb.block _ (by omega)).trans g2
  refine ⟨⟨by simp; omega, fun k h3 h4 => ?_⟩, rfl, rfl, Boxed.other (Boxed.set _ k1) (by omega) _, Boxed.set _ (Boxed.other k2 (by omega) _), ⟨hb.os.trans e5.os, hb.tape.trans e5.tape, hb.output.trans e5.output, by simp; omega, fun k hk hn => ?_⟩⟩
  · by_cases hkA : k < A.heap.size
    · exact (Below.heap_setCell _ _ _ _ (by simp only []; omega)).trans ((Below.heap_setCell _ _ _ _ (by simp only []; omega)).trans (hb.block _ hkA))
    · exact absurd h4 (by omega)
  · exact (Below.heap_setCell _ _ _ _ (by simp only []; omega)).trans ((Below.heap_setCell _ _ _ _ (by simp only []; omega)).trans ((hb.block _ (by omega)).trans (e5.block _ hk)))
theorem infoInt : (Tryd.prog.info? 3).map (fun i => (i.zero, i.size, i.bytes)) = some (some (.int .i64 0), 1, 8) := by kernel_rfl
section
attribute [local go_sem] Oper.semAt_some
set_option maxRecDepth 100000 in
set_option maxHeartbeats 4000000 in
theorem Parse_in (n : Nat) (hn : 8 ≤ n) (s : ByteArray) (hs : s.size ≤ 1000000) (res : Option (List (List Int))) (w : World) (hT : VTabs w) (h : rowsF (linesB s) [] = res) :
    CallsIn Fence.wide n Tryd.prog 17 #[.string s] w fun e w' => ∃ v0_ : Value, e = .returned (.tuple #[v0_, .int .i64 (outF res).2]) ∧ Kd.S (Kd.slice 3 (Kd.int .i64)) 40 w' w.heap.size (fun _ => True) v0_ (outF res).1 ∧ Below w.heap.size w w' := by
  have h1 : 1 ≤ n := by omega
  have HT := Aside0.mk hT
  have HRES := Aside0.mk h
  clear hT h
  refine callsIn_of_wp_marks Tryd.func17 rfl trivial ?_ rfl
  simp only [Tryd.ntmps17, List.size_toArray, List.length_cons, List.length_nil, Nat.reduceAdd, Nat.reduceSub, Array.replicate_succ, Array.replicate_zero, List.push_toArray, List.append_toArray, List.nil_append, List.cons_append]
  gi_wp2_with (refine ⟨trivial, ?_⟩; gi_at_call 33; refine (callsIn_wide.2 (Lines_calls s _)).mono ?_; rintro e w' ⟨rfl, rfl⟩)
  have b0 := (((Boxed.new w 22 (.slice none 0 0)).alloc (.cells #[.int .i64 0] 27)).alloc (.cells #[.slice none 0 0] 22)).alloc (.cells #[.string s] 9)
  have b1 := ((Boxed.new (w.alloc (.cells #[.slice none 0 0] 22)) 27 (.int .i64 0)).alloc (.cells #[.slice none 0 0] 22)).alloc (.cells #[.string s] 9)
  have b2 := (Boxed.new ((w.alloc (.cells #[.slice none 0 0] 22)).alloc (.cells #[.int .i64 0] 27)) 22 (.slice none 0 0)).alloc (.cells #[.string s] 9)
  have b3 := (Boxed.new (((w.alloc (.cells #[.slice none 0 0] 22)).alloc (.cells #[.int .i64 0] 27)).alloc (.cells #[.slice none 0 0] 22)) 9 (.string s))
  simp only [World.size_alloc] at b1 b2 b3
  have hB0 : Below w.heap.size w ((((w.alloc (.cells #[.slice none 0 0] 22)).alloc (.cells #[.int .i64 0] 27)).alloc (.cells #[.slice none 0 0] 22)).alloc (.cells #[.string s] 9)) :=
    ((((Below.refl _ w).alloc (Nat.le_refl _) _).alloc (by simp) _).alloc (by simp; omega) _).alloc (by simp; omega) _
  have hsz : ((((w.alloc (.cells #[.slice none 0 0] 22)).alloc (.cells #[.int .i64 0] 27)).alloc (.cells #[.slice none 0 0] 22)).alloc (.cells #[.string s] 9)).heap.size = w.heap.size + 4 := by simp
  obtain ⟨W0, hW0⟩ : ∃ W0, (((w.alloc (.cells #[.slice none 0 0] 22)).alloc (.cells #[.int .i64 0] 27)).alloc (.cells #[.slice none 0 0] 22)).alloc (.cells #[.string s] 9) = W0 := ⟨_, rfl⟩
  rw [hW0] at b0 b1 b2 b3 hB0 hsz ⊢
  clear hW0
  have hsz5 : (W0.alloc (.deferred (some []))).heap.size = w.heap.size + 5 := by rw [World.size_alloc, hsz]
  have hoD : ∀ k, k < w.heap.size + 4 → (W0.alloc (.deferred (some []))).heap[k]? = W0.heap[k]? := fun k hk => Below.heap_alloc _ _ k (by omega)
  have hlines : (linesB s).length ≤ 1000000 := by
    have : ∀ l : List UInt8, (linesOn l).length ≤ l.length := by
      intro l
      induction l with
      | nil => simp [linesOn]
      | cons b t ih =>
        unfold linesOn
        split
        · simp; omega
        · split
          · next p r e => rw [e] at ih; simp at ih ⊢; omega
          · simp
    have h2 := this s.data.toList
    unfold linesB
    rw [List.length_map]
    rw [Lib.size_eq] at hs
    omega
  refine range_core (W0.alloc (.deferred (some []))) [{ target := .collected W0.heap.size, args := #[] }] W0.heap.size
    (fun fn => by have := run_enterLoop_outer (P := Tryd.prog) (w := W0) fn; rw [World.size_alloc]; exact this _ _ _ _)
    h1 (gf := 52) (lb := #[.pointer (some ⟨w.heap.size + 3, 0, none⟩)]) rfl trivial (enters_of Tryd.func52 (by kernel_rfl) rfl)
    Value.string (linesB s) (w.heap.size + 3) 1 (by omega) (by omega) ?hit rfl (OutI w res (linesB s)) (OutX w res)
    (fun i A B hA k => OutI.oth hA (by rw [hsz5] at k; exact k)) (fun c A B hA k => OutX.oth hA (by rw [hsz5] at k; exact k)) ?h0 ?a1 ?hassign ?hbody ?hdone ?hstop
  case hit =>
    intro W1 hs1 ho1
    refine lines_iter (n - 1) (by omega) s (by omega) (linesB s) (map_lists _) (w.heap.size + 3) _ W1 ?_
    exact (ho1 _ (by omega)).trans ((hoD _ (by omega)).trans b3)
  case h0 => exact ⟨[], .slice none 0 0, (hoD _ (by omega)).trans b0, (hoD _ (by omega)).trans b1, (hoD _ (by omega)).trans b2, Kd.S_nil _ _ _ _ _, by simp, HRES.out, hB0.alloc (by omega) _⟩
  case hassign =>
    intro x W K hK
    gi_wp2
    exact hK
  case hbody =>
    rintro i x V hx ⟨r0, hr0⟩ hblk ⟨acc, rv, d1, d2, d3, d4, d5, d6, d7⟩
    have hxs : x.size ≤ 1000000 := by
      have := pieces_le (n := s.size) (fun p hp => by have := linesOn_le _ p hp; rw [Lib.size_eq]; exact this) hx
      omega
    rw [hsz5] at hr0
    have hVs : w.heap.size + 6 ≤ V.heap.size := by have := (Array.getElem?_eq_some_iff.1 hr0).1; omega
    obtain ⟨hil, hix⟩ := List.getElem?_eq_some_iff.1 hx
    have hi6 : i < 1000000 := by omega
    rw [List.drop_eq_getElem_cons hil, hix] at d6
    unfold rowsF at d6
    obtain ⟨u, hu⟩ : ∃ u : ByteArray, (⟨(Lib.trimSuffix x.data.toList [48, 10]).toArray⟩ : ByteArray) = u := ⟨_, rfl⟩
    have hud : Lib.trimSuffix x.data.toList [48, 10] = u.data.toList := by rw [← hu]
    have hus : u.size ≤ 1000000 := by
      have h2 : (Lib.trimSuffix x.data.toList [48, 10]).length ≤ x.data.toList.length := by
        unfold Lib.trimSuffix
        split
        · rw [List.length_take]; omega
        · exact Nat.le_refl _
      rw [Lib.size_eq] at hxs ⊢
      rw [← hud]
      omega
    rw [hud] at d6
    obtain ⟨o, ho⟩ : ∃ o, rowF (wordsB u.data.toList) [] = o := ⟨_, rfl⟩
    rw [ho] at d6
    obtain ⟨ok, hok⟩ : ∃ ok, Lib.hasSuffix x.data.toList [48, 10] = ok := ⟨_, rfl⟩
    rw [hok] at d6
    have hcs := Tryd.strings_CutSuffix x ⟨#[48, 10]⟩ V (by omega)
    rw [show (⟨#[48, 10]⟩ : ByteArray).data.toList = [48, 10] from rfl, hu, hok] at hcs
    have HCS := Aside0.mk hcs
    have D6 := Aside0.mk d6
    have HO := Aside0.mk ho
    clear d6 ho hx hix hcs hu hud hok
    have h2 : 1 ≤ n - 1 - 1 := by omega
    gi_wp2_with (first | (refine ⟨trivial, ?_⟩; gi_at_call 34; refine (CallsIn.inRound _ (callsIn_wide.2 HCS.out)).mono ?_; rintro e w' ⟨rfl, hw_⟩; obtain rfl := hw_.symm) | (refine ⟨trivial, ?_⟩; gi_at_call 35; refine (CallsIn.inRound _ (callsIn_wide.2 (SplitAfterSeq_calls u _))).mono ?_; rintro e w' ⟨rfl, rfl⟩))
    have m0 := ((((Boxed.new V 40 (.slice none 0 0)).alloc (.cells #[.string u] 9)).alloc (.cells #[.string ⟨#[32]⟩] 9)).alloc (.cells #[.int .i64 1] 3))
    have m1 := (((Boxed.new (V.alloc (.cells #[.slice none 0 0] 40)) 9 (.string u)).alloc (.cells #[.string ⟨#[32]⟩] 9)).alloc (.cells #[.int .i64 1] 3))
    have m2 := ((Boxed.new ((V.alloc (.cells #[.slice none 0 0] 40)).alloc (.cells #[.string u] 9)) 9 (.string ⟨#[32]⟩)).alloc (.cells #[.int .i64 1] 3))
    have m3 := (Boxed.new (((V.alloc (.cells #[.slice none 0 0] 40)).alloc (.cells #[.string u] 9)).alloc (.cells #[.string ⟨#[32]⟩] 9)) 3 (.int .i64 1))
    simp only [World.size_alloc] at m1 m2 m3
    have hB1 : Below V.heap.size V ((((V.alloc (.cells #[.slice none 0 0] 40)).alloc (.cells #[.string u] 9)).alloc (.cells #[.string ⟨#[32]⟩] 9)).alloc (.cells #[.int .i64 1] 3)) :=
      ((((Below.refl _ V).alloc (Nat.le_refl _) _).alloc (by simp) _).alloc (by simp; omega) _).alloc (by simp; omega) _
    have hsz1 : ((((V.alloc (.cells #[.slice none 0 0] 40)).alloc (.cells #[.string u] 9)).alloc (.cells #[.string ⟨#[32]⟩] 9)).alloc (.cells #[.int .i64 1] 3)).heap.size = V.heap.size + 4 := by simp
    obtain ⟨V0, hV0⟩ : ∃ V0, (((V.alloc (.cells #[.slice none 0 0] 40)).alloc (.cells #[.string u] 9)).alloc (.cells #[.string ⟨#[32]⟩] 9)).alloc (.cells #[.int .i64 1] 3) = V0 := ⟨_, rfl⟩
    rw [hV0] at m0 m1 m2 m3 hB1 hsz1 ⊢
    clear hV0
    have hr1 : V0.heap[(W0.alloc (.deferred (some []))).heap.size]? = some (.loop r0) := by rw [hsz5]; exact (hB1.block _ (by omega)).trans hr0
    have hwl : (wordsB u.data.toList).length ≤ 2000000 := by
      have : ∀ l : List UInt8, (afterOn 32 l).length ≤ l.length + 1 := by
        intro l
        induction l with
        | nil => simp [afterOn]
        | cons b t ih =>
          unfold afterOn
          split
          · simp; omega
          · split
            · next p r e => rw [e] at ih; simp at ih ⊢; omega
            · simp
      have h2 := this u.data.toList
      unfold wordsB
      rw [List.length_map]
      rw [Lib.size_eq] at hus
      omega
    refine range_core V0 [] r0.defers (fun fn => run_enterLoop_inner hr1 fn _ _ _ _)
      h2 (gf := 71) (lb := #[.pointer (some ⟨V.heap.size + 1 + 1, 0, none⟩), .pointer (some ⟨V.heap.size + 1, 0, none⟩), .pointer (some ⟨V.heap.size + 1 + 2, 0, none⟩)]) rfl trivial (enters_of Tryd.func71 (by kernel_rfl) rfl)
      Value.string (wordsB u.data.toList) (V.heap.size + 1) 3 (by omega) (by omega) ?hit2 rfl (InI V o (wordsB u.data.toList)) (InX w.heap.size V o)
      (fun i A B hA k => InI.oth hA (by rw [hsz1] at k; exact k)) (fun c A B hA k => InX.oth (by omega) hA (by rw [hsz1] at k; exact k)) ?h02 ?a2 ?hassign2 ?hbody2 ?hdone2 ?hstop2
    case hit2 =>
      intro W1 hs1 ho1
      refine after_iter (n - 1 - 1 - 1) (by omega) 32 u (by omega) (wordsB u.data.toList) (map_lists _) (V.heap.size + 1) _ W1 ?_ ?_ ?_
      · exact (ho1 _ (by omega)).trans m1
      · exact (ho1 _ (by omega)).trans m2
      · exact (ho1 _ (by omega)).trans m3
    case h02 => exact ⟨[], .slice none 0 0, m0, Kd.R_nil _ _ _ _ _, by simp, HO.out, hB1⟩
    case hassign2 =>
      intro y W K hK
      gi_wp2
      exact hK
    case hbody2 =>
      rintro j y A hy hrec2 hblk2 ⟨row, rv2, e1, e2, e3, e4, e5⟩
      have hys : y.size ≤ 1000000 := by
        have := pieces_le (n := u.size) (fun p hp => by have := afterOn_le 32 _ p hp; rw [Lib.size_eq]; exact this) hy
        omega
      obtain ⟨hjl, hjx⟩ := List.getElem?_eq_some_iff.1 hy
      have hj6 : j < 2000000 := by omega
      rw [List.drop_eq_getElem_cons hjl, hjx] at e4
      unfold rowF at e4
      have hA5 : V.heap.size + 5 ≤ A.heap.size := by
        obtain ⟨r, hr⟩ := hrec2
        have := (Array.getElem?_eq_some_iff.1 hr).1
        omega
      have g1 : Boxed A w.heap.size 22 (.slice none 0 0) := (e5.block _ (by omega)).trans d1
      have g2 : Boxed A (w.heap.size + 1) 27 (.int .i64 0) := (e5.block _ (by omega)).trans d2
      have HTA := Aside0.mk (HT.out.below (d7.trans (e5.mono (by omega))))
      by_cases hy0 : y.data.toList = []
      · rw [if_pos hy0] at e4
        have hye : y = ⟨#[]⟩ := ByteArray.ext (Array.ext' hy0)
        have E4 := Aside0.mk e4
        clear e4 hjx hy hy0
        subst hye
        gi_wp2
        exact ⟨Inn.refl _ _ _, row, rv2, e1, e2, by omega, E4.out, e5⟩
      · rw [if_neg hy0] at e4
        have hyn : y.toList.isEmpty = false := by
          rw [Lib.toList_data]
          cases h : y.data.toList with
          | nil => exact absurd h hy0
          | cons => rfl
        have h4n : 1 ≤ n - 1 - 1 - 1 - 1 := by omega
        obtain ⟨v, hv⟩ : ∃ v : ByteArray, (⟨(Lib.trimSuffix y.data.toList [32]).toArray⟩ : ByteArray) = v := ⟨_, rfl⟩
        have hvd : Lib.trimSuffix y.data.toList [32] = v.data.toList := by rw [← hv]
        have hvs : v.size ≤ 1000000 := by
          have h2 : (Lib.trimSuffix y.data.toList [32]).length ≤ y.data.toList.length := by
            unfold Lib.trimSuffix
            split
            · rw [List.length_take]; omega
            · exact Nat.le_refl _
          rw [Lib.size_eq] at hys ⊢
          rw [← hvd]
          omega
        unfold litW at e4
        rw [hvd] at e4
        obtain ⟨is, his⟩ : ∃ is, Lib.hasSuffix y.data.toList [32] = is := ⟨_, rfl⟩
        rw [his] at e4
        have hcs := Tryd.strings_CutSuffix y ⟨#[32]⟩ A (by omega)
        rw [show (⟨#[32]⟩ : ByteArray).data.toList = [32] from rfl, hv, his] at hcs
        have HCS2 := Aside0.mk hcs
        have HAT := Aside0.mk (atoi_any v (by omega) A HTA.out)
        have E4 := Aside0.mk e4
        have HY := Aside0.mk hyn
        clear e4 hjx hy hcs hv hvd his hyn hy0
        have hyn := HY.out
        gi_wp2_with (first | (refine ⟨trivial, ?_⟩; gi_at_call 34; refine (CallsIn.inRound _ (CallsIn.inRound _ (callsIn_wide.2 HCS2.out))).mono ?_; rintro e w' ⟨rfl, hw_⟩; obtain rfl := hw_.symm) | (refine ⟨trivial, ?_⟩; gi_at_call 36; refine (CallsIn.inRound _ (CallsIn.inRound _ (callsIn_wide.2 HAT.out))).mono ?_; rintro e A3 ⟨x0, ev, rfl, hbA, hc⟩; refine Aside0.out ?_))
        refine ⟨?_⟩
        have HBA := Aside0.mk hbA
        have hz3 := hbA.size
        have n1 : w.heap.size < A3.heap.size := by omega
        have n2 : w.heap.size + 1 < A3.heap.size := by omega
        have n3 : V.heap.size < A3.heap.size := by omega
        have k1 := (hbA.block _ (by omega)).trans g1
        have k2 := (hbA.block _ (by omega)).trans g2
        have k4 := (hbA.block _ (by omega)).trans e1
        obtain ⟨A2, c2, rfl, _, _⟩ := Kd.R_reads e2
        have x1 := Boxed.cell k1
        have x2 := Boxed.cell k2
        have x4 := Boxed.cell k4
        have y1 := Boxed.frozen k1
        have y2 := Boxed.frozen k2
        have y4 := Boxed.frozen k4
        have BAD : Aside0 (∀ (L : Nat) (A4 : World) (a : Act) (I : Nat → World → Prop), L = V0.heap.size → o = none → Below A.heap.size A A4 → roundQ (V.heap.size + 1) (L + 1) I (InX w.heap.size V o) j A .ret a ((A4.setCell ⟨w.heap.size, 0, none⟩ (.slice none 0 0)).setCell ⟨w.heap.size + 1, 0, none⟩ (.int .i64 2))) :=
          ⟨fun L A4 a I hL ho hb => by subst ho; exact in_bad (by omega) e5 hb g1 g2 (L := L) (by omega) (by omega) a⟩
        have K1 := Aside0.mk k1
        have K2 := Aside0.mk k2
        have K4 := Aside0.mk k4
        clear k1 k2 k4 hbA
        cases is with
        | false =>
          have ho : o = none := by have := E4.out; rw [if_neg (by decide)] at this; exact this.symm
          have HO2 := Aside0.mk ho
          clear ho hc
          gi_wp2_with (refine ⟨trivial, ?_⟩)
          exact BAD.out _ _ _ _ (by omega) HO2.out HBA.out
        | true =>
          have E5 := E4.out
          rw [if_pos rfl] at E5
          rcases hc with ⟨rfl, hc⟩ | ⟨⟨p, rfl⟩, hc⟩
          · rw [hc] at E5
            replace E5 : (match (if litR x0 = true ∧ Lib.itoa x0 = v.data.toList then some x0 else none) with | none => none | some x => rowF (List.drop (j + 1) (wordsB u.data.toList)) (row ++ [x])) = o := E5
            have HLT : Aside0 (∀ W, Calls Tryd.prog 25 #[.int .i64 x0] W fun e w' => e = .returned (.bool (litR x0)) ∧ w' = W) := ⟨fun W => lit_any x0 W⟩
            cases hx : litR x0 with
            | false =>
              have ho : o = none := by rw [hx] at E5; rw [if_neg (by simp)] at E5; exact E5.symm
              have HO2 := Aside0.mk ho
              rw [hx] at HLT
              clear ho hc E5 hx
              gi_wp2_with (first | (refine ⟨trivial, ?_⟩; gi_at_call 25; refine (CallsIn.inRound _ (CallsIn.inRound _ (callsIn_wide.2 (HLT.out _)))).mono ?_; rintro e w' ⟨rfl, hw_⟩; obtain rfl := hw_.symm) | refine ⟨trivial, ?_⟩)
              exact BAD.out _ _ _ _ (by omega) HO2.out HBA.out
            | true =>
              have HIT := Aside0.mk (itoa_any x0 hx A3 (HTA.out.below HBA.out))
              rw [hx] at HLT
              by_cases hi : Lib.itoa x0 = v.data.toList
              · have ho : rowF (List.drop (j + 1) (wordsB u.data.toList)) (row ++ [x0]) = o := by rw [if_pos ⟨hx, hi⟩] at E5; exact E5
                have hiv : (⟨(Lib.itoa x0).toArray⟩ : ByteArray) = v := ByteArray.ext (Array.ext' (by simpa using hi))
                rw [hiv] at HIT
                have HO2 := Aside0.mk ho
                clear ho hc E5 hx hi hiv
                gi_wp2_with (first | (refine ⟨trivial, ?_⟩; gi_at_call 25; refine (CallsIn.inRound _ (CallsIn.inRound _ (callsIn_wide.2 (HLT.out _)))).mono ?_; rintro e w' ⟨rfl, hw_⟩; obtain rfl := hw_.symm) | (refine ⟨trivial, ?_⟩; gi_at_call 27; refine (CallsIn.inRound _ (CallsIn.inRound _ (callsIn_wide.2 HIT.out))).mono ?_; rintro e A4 ⟨rfl, hb4⟩; refine Aside0.out ?_))
                refine ⟨?_⟩
                have hz4 := hb4.size
                have k1 := (hb4.block _ (by omega)).trans K1.out
                have k4 := (hb4.block _ (by omega)).trans K4.out
                have x4 := Boxed.cell k4
                have y4 := Boxed.frozen k4
                have hRr : Kd.R (Kd.int .i64) 3 A4 (V.heap.size + 5) (fun _ => True) (.slice A2 row.length c2) row := Kd.R_below (Kd.R_below e2 HBA.out) hb4
                have HB4 := Aside0.mk (HBA.out.trans (hb4.mono HBA.out.size))
                have K4' := Aside0.mk k4
                clear hb4 k1 k4
                gi_wp2_with (gi_at_builtin; refine R_in_append (Kd.int .i64) (w0 := A) (V.heap.size + 5) rfl (.tmp 54) (.tmp 56) 40 3 (.int .i64 0) 8 rfl Tryd.underlying40 infoInt rfl (by decide) (by omega) (.slice A2 row.length c2) row x0 [.int .i64 x0] (fun _ => True) (fun _ => False) rfl rfl rfl (fun _ h => h.elim) (fun _ _ => trivial) hRr (HB4.out.mono (by omega)) (by omega) (by omega) ?_; intro v1 w1 hR1 hb1 hg1 _; obtain ⟨A5, c5, rfl, _, _⟩ := Kd.R_reads hR1; have z1 := Boxed.frozen (show Boxed w1 V.heap.size 40 (.slice A2 row.length c2) from (hb1.block _ (by omega)).trans e1); have z2 := Boxed.cell (show Boxed w1 V.heap.size 40 (.slice A2 row.length c2) from (hb1.block _ (by omega)).trans e1))
                rw [show (row ++ [x0]).length = row.length + 1 from by simp] at hR1
                have u1 : Boxed w1 V.heap.size 40 (.slice A2 row.length c2) := (hb1.block _ (by omega)).trans e1
                exact ⟨⟨by simp; exact hb1.size, fun k h3 h4 => (Below.heap_setCell _ _ _ _ (by simp only []; omega)).trans (hb1.block _ (by omega))⟩, row ++ [x0], .slice A5 (row.length + 1) c5, Boxed.set _ u1,
                  Kd.R_mono (Kd.R_step (Kd.R_bound hR1) (fun k hk hlt => Below.heap_setCell _ _ _ _ (by have := hk.2.1; simp only []; omega))) (fun _ hk => hk.1), by rw [List.length_append, List.length_singleton]; omega, HO2.out,
                  Below_oth (lo := V.heap.size) (hi := V.heap.size + 1) (e5.trans (hb1.mono (by omega))) ⟨rfl, rfl, rfl, by simp, fun k hk hn => Below.heap_setCell _ _ _ _ (by simp only []; omega)⟩ (Nat.le_refl _) (Nat.le_refl _)⟩
              · have ho : o = none := by rw [if_neg (fun h => hi h.2)] at E5; exact E5.symm
                have hne : (Lib.itoa x0 == v.toList) = false := by
                  rw [Lib.toList_data]
                  simpa using hi
                have HO2 := Aside0.mk ho
                clear ho hc E5 hx hi
                gi_wp2_with (first | (refine ⟨trivial, ?_⟩; gi_at_call 25; refine (CallsIn.inRound _ (CallsIn.inRound _ (callsIn_wide.2 (HLT.out _)))).mono ?_; rintro e w' ⟨rfl, hw_⟩; obtain rfl := hw_.symm) | (refine ⟨trivial, ?_⟩; gi_at_call 27; refine (CallsIn.inRound _ (CallsIn.inRound _ (callsIn_wide.2 HIT.out))).mono ?_; rintro e A4 ⟨rfl, hb4⟩; refine Aside0.out ?_))
                refine ⟨?_⟩
                have hz4 := hb4.size
                have k1 := (hb4.block _ (by omega)).trans K1.out
                have k2 := (hb4.block _ (by omega)).trans K2.out
                have x1 := Boxed.cell k1
                have x2 := Boxed.cell k2
                have y1 := Boxed.frozen k1
                have y2 := Boxed.frozen k2
                have HB4 := Aside0.mk (HBA.out.trans (hb4.mono HBA.out.size))
                clear hb4 k1 k2
                gi_wp2
                exact BAD.out _ _ _ _ (by omega) HO2.out HB4.out
          · have ho : o = none := by
              cases h : Lib.atoiAll v.data.toList <;> rw [h] at E5
              · exact absurd h (hc _)
              · exact E5.symm
              · exact E5.symm
            have HO2 := Aside0.mk ho
            clear ho hc E5
            gi_wp2_with (refine ⟨trivial, ?_⟩)
            exact BAD.out _ _ _ _ (by omega) HO2.out HBA.out
    case hdone2 =>
      rintro W ⟨row, rv2, e1, e2, e3, e4, e5⟩ hD hlt
      obtain rfl : o = some row := by
        rw [List.drop_length] at e4
        exact e4.symm
      have g1 : Boxed W w.heap.size 22 (.slice none 0 0) := (e5.block _ (by omega)).trans d1
      have g2 : Boxed W (w.heap.size + 1) 27 (.int .i64 0) := (e5.block _ (by omega)).trans d2
      have g3 : Boxed W (w.heap.size + 2) 22 rv := (e5.block _ (by omega)).trans d3
      obtain ⟨A2, c2, rfl, _, _⟩ := Kd.R_reads e2
      obtain ⟨A1, c1, rfl, _, _⟩ := Kd.S_reads d4
      have x1 := Boxed.cell g1
      have x2 := Boxed.cell g2
      have x3 := Boxed.cell g3
      have x4 := Boxed.cell e1
      have y1 := Boxed.frozen g1
      have y2 := Boxed.frozen g2
      have D7 := D6.out
      cases ok with
      | false =>
        obtain rfl : res = none := by
          simp only [Bool.false_eq_true, if_false] at D7
          exact D7.symm
        clear D7 HO e4
        gi_wp2
        exact ⟨⟨by simp; exact e5.size, fun k h3 h4 => (Below.heap_setCell _ _ _ _ (by simp only []; omega)).trans ((Below.heap_setCell _ _ _ _ (by simp only []; omega)).trans (e5.block _ (by omega)))⟩, rfl, rfl,
          Boxed.other (Boxed.set _ g1) (by omega) _, Boxed.set _ (Boxed.other g2 (by omega) _),
          Below_oth (lo := w.heap.size) (hi := w.heap.size + 2) (d7.trans (e5.mono (by omega))) ⟨rfl, rfl, rfl, by simp, fun k hk hn => (Below.heap_setCell _ _ _ _ (by simp only []; omega)).trans (Below.heap_setCell _ _ _ _ (by simp only []; omega))⟩ (Nat.le_refl _) (Nat.le_refl _)⟩
      | true =>
        have D9 : rowsF (List.drop (i + 1) (linesB s)) (acc ++ [row]) = res := by
          simp only [if_true] at D7
          exact D7
        have DX := Aside0.mk D9
        clear D9 D7
        have hv1 : ∀ k, (Value.slice A1 acc.length c1).ownBlock = some k → k < V.heap.size := fun k hk => ((Kd.S_R (Kd.S_bound d4)).1 k hk).2.2.1
        have hv2 : ∀ k, (Value.slice A2 row.length c2).ownBlock = some k → V.heap.size + 5 ≤ k := fun k hk => by
          obtain ⟨inner, ho⟩ := Kd.R_own e2
          exact own_base ho k hk
        have hS0 : Kd.S (Kd.slice 3 (Kd.int .i64)) 40 W (w.heap.size + 6) (fun k => True ∧ ¬ some k = (Value.slice A2 row.length c2).ownBlock) (.slice A1 acc.length c1) acc :=
          Kd.S_mono (Kd.S_step (Kd.S_bound d4) (fun k hk hlt => e5.block k hlt)) (fun k hk => ⟨trivial, fun e => by have := hv2 k e.symm; have := hk.2.2.1; omega⟩)
        gi_wp2_with (gi_at_builtin; refine S_in_append (Kd.slice 3 (Kd.int .i64)) (w0 := V) (w.heap.size + 6) rfl (.tmp 60) (.tmp 62) 22 40 (.slice none 0 0) 24 rfl Tryd.underlying22 infoRow rfl (by decide) (by omega) (.slice A1 acc.length c1) acc row [.slice A2 row.length c2] (fun _ => True) (fun k => some k = (Value.slice A2 row.length c2).ownBlock) rfl rfl (Kd.M_row (Kd.R_mono (Kd.R_tight rfl (Kd.R_lower e2 (by omega))) (fun _ h => h))) (fun k hk => ⟨trivial, fun e => by have := hv2 k hk.symm; have := hv1 k e.symm; omega⟩) (fun _ _ => trivial) hS0 (e5.mono (by omega)) (by have := e5.size; omega) (by omega) ?_; intro v1 w1 hS1 hb1 hg1 _; obtain ⟨A3, c3, rfl, _, _⟩ := Kd.S_reads hS1; have z1 := Boxed.frozen (show Boxed w1 (w.heap.size + 2) 22 (.slice A1 acc.length c1) from (hb1.block _ (by omega)).trans d3); have z2 := Boxed.cell (show Boxed w1 (w.heap.size + 2) 22 (.slice A1 acc.length c1) from (hb1.block _ (by omega)).trans d3))
        rw [show (acc ++ [row]).length = acc.length + 1 from by simp] at hS1
        have u1 : Boxed w1 w.heap.size 22 (.slice none 0 0) := (hb1.block _ (by omega)).trans d1
        have u2 : Boxed w1 (w.heap.size + 1) 27 (.int .i64 0) := (hb1.block _ (by omega)).trans d2
        have u3 : Boxed w1 (w.heap.size + 1 + 1) 22 (.slice A1 acc.length c1) := (hb1.block _ (by omega)).trans d3
        exact ⟨⟨by simp; exact hb1.size, fun k h3 h4 => (Below.heap_setCell _ _ _ _ (by simp only []; omega)).trans (hb1.block _ (by omega))⟩, acc ++ [row], .slice A3 (acc.length + 1) c3,
          Boxed.other u1 (by omega) _, Boxed.other u2 (by omega) _, Boxed.set _ u3,
          Kd.S_mono (Kd.S_step (Kd.S_bound hS1) (fun k hk hlt => Below.heap_setCell _ _ _ _ (by have := hk.2.1; simp only []; omega))) (fun _ hk => hk.1), by rw [List.length_append, List.length_singleton]; omega, DX.out,
          Below_oth (lo := w.heap.size) (hi := w.heap.size + 3) (d7.trans (hb1.mono (by omega))) ⟨rfl, rfl, rfl, by simp, fun k hk hn => Below.heap_setCell _ _ _ _ (by simp only []; omega)⟩ (Nat.le_refl _) (Nat.le_refl _)⟩
    case hstop2 =>
      rintro c W ⟨rfl, rfl, k1, k2, k3⟩ hD hlt
      obtain rfl : res = none := D6.out.symm
      gi_wp2
      exact ⟨⟨k3.size, fun k h3 h4 => k3.same k (by omega) (by omega)⟩, rfl, rfl, k1, k2, Below_oth d7 k3 (Nat.le_refl _) (Nat.le_refl _)⟩
  case hdone =>
    rintro W ⟨acc, rv, d1, d2, d3, d4, d5, d6, d7⟩ hD hlt
    obtain ⟨A1, c1, rfl, e2, e3⟩ := Kd.S_reads d4
    have hK : W.heap[W0.heap.size]? = some (.deferred (some [])) := (hD _ (by omega) (by omega)).trans (World.alloc_heap_new W0 _)
    obtain rfl : res = some acc := by
      rw [List.drop_length] at d6
      exact d6.symm
    have g1 := Boxed.cell d1
    have g2 := Boxed.cell d2
    have g3 := Boxed.cell d3
    have f1 := Boxed.frozen d1
    have f2 := Boxed.frozen d2
    gi_wp2
    have hK' : ((W.setCell ⟨w.heap.size, 0, none⟩ (.slice A1 acc.length c1)).setCell ⟨w.heap.size + 1, 0, none⟩ (.int .i64 0)).heap[W0.heap.size]? = some (.deferred (some [])) :=
      (Below.heap_setCell _ _ _ _ (by simp only []; omega)).trans ((Below.heap_setCell _ _ _ _ (by simp only []; omega)).trans hK)
    refine ⟨by simp, .inl ⟨_, _, rfl, run_takeDeferred hK', ?_⟩⟩
    have p1 : Boxed (((W.setCell ⟨w.heap.size, 0, none⟩ (.slice A1 acc.length c1)).setCell ⟨w.heap.size + 1, 0, none⟩ (.int .i64 0)).putObj W0.heap.size (.deferred none)) w.heap.size 22 (.slice A1 acc.length c1) :=
      (World.putObj_heap_other (by omega)).trans (Boxed.other (Boxed.set (.slice A1 acc.length c1) d1) (by omega) (.int .i64 0))
    have p2 : Boxed (((W.setCell ⟨w.heap.size, 0, none⟩ (.slice A1 acc.length c1)).setCell ⟨w.heap.size + 1, 0, none⟩ (.int .i64 0)).putObj W0.heap.size (.deferred none)) (w.heap.size + 1) 27 (.int .i64 0) :=
      (World.putObj_heap_other (by omega)).trans (Boxed.set (.int .i64 0) (Boxed.other d2 (by omega) (.slice A1 acc.length c1)))
    have q1 := Boxed.cell p1
    have q2 := Boxed.cell p2
    have hfin : Below w.heap.size w (((W.setCell ⟨w.heap.size, 0, none⟩ (.slice A1 acc.length c1)).setCell ⟨w.heap.size + 1, 0, none⟩ (.int .i64 0)).putObj W0.heap.size (.deferred none)) :=
      Below_oth (lo := w.heap.size) (hi := w.heap.size + 5) d7 ⟨rfl, rfl, rfl, by simp, fun k hk hn => (World.putObj_heap_other (by omega)).trans ((Below.heap_setCell _ _ _ _ (by simp only []; omega)).trans (Below.heap_setCell _ _ _ _ (by simp only []; omega)))⟩ (Nat.le_refl _) (Nat.le_refl _)
    have hS : Kd.S (Kd.slice 3 (Kd.int .i64)) 40 (((W.setCell ⟨w.heap.size, 0, none⟩ (.slice A1 acc.length c1)).setCell ⟨w.heap.size + 1, 0, none⟩ (.int .i64 0)).putObj W0.heap.size (.deferred none)) w.heap.size (fun _ => True) (.slice A1 acc.length c1) acc :=
      Kd.S_lower (Kd.S_mono (Kd.S_step (Kd.S_bound d4) (fun k hk hlt => (World.putObj_heap_other (by have := hk.2.1; omega)).trans ((Below.heap_setCell _ _ _ _ (by have := hk.2.1; simp only []; omega)).trans (Below.heap_setCell _ _ _ _ (by have := hk.2.1; simp only []; omega))))) (fun _ hk => hk.1)) (by omega)
    exact ⟨.tuple #[.slice A1 acc.length c1, .int .i64 0], by simp [results, Tryd.results17, go_sem, q1, q2], _, rfl, hS, hfin⟩
  case hstop => 
    rintro c W ⟨rfl, rfl, d1, d2, d3⟩ hD hlt
    have hK : W.heap[W0.heap.size]? = some (.deferred (some [])) := (hD _ (by omega) (by omega)).trans (World.alloc_heap_new W0 _)
    have g1 := Boxed.cell d1
    have g2 := Boxed.cell d2
    gi_wp2
    refine ⟨by simp, .inl ⟨_, _, rfl, run_takeDeferred hK, ?_⟩⟩
    have p1 : Boxed (W.putObj W0.heap.size (.deferred none)) w.heap.size 22 (.slice none 0 0) := (World.putObj_heap_other (by omega)).trans d1
    have p2 : Boxed (W.putObj W0.heap.size (.deferred none)) (w.heap.size + 1) 27 (.int .i64 2) := (World.putObj_heap_other (by omega)).trans d2
    have q1 := Boxed.cell p1
    have q2 := Boxed.cell p2
    have hfin : Below w.heap.size w (W.putObj W0.heap.size (.deferred none)) :=
      Below_oth (lo := w.heap.size) (hi := w.heap.size + 5) d3 ⟨rfl, rfl, rfl, by simp, fun k hk hn => World.putObj_heap_other (by omega)⟩ (Nat.le_refl _) (Nat.le_refl _)
    exact ⟨.tuple #[.slice none 0 0, .int .i64 2], by simp [results, Tryd.results17, go_sem, q1, q2], _, rfl, Kd.S_nil _ _ _ _ _, hfin⟩
end
theorem refute_Parse.calls (a0 : ByteArray) (r1 : List (List Int)) (r2 : Int) (w : World) (hT : VTabs w) (h : refute_Parse.f a0 = some (r1, r2)) :
    Calls Tryd.prog 17 #[.string a0] w fun e w' => ∃ v0_ : Value, e = .returned (.tuple #[v0_, .int .i64 r2]) ∧ Kd.S (Kd.slice 3 (Kd.int .i64)) 40 w' w.heap.size (fun _ => True) v0_ r1 ∧ Below w.heap.size w w' := by
  unfold refute_Parse.f at h
  split at h
  · next hs =>
    have e := Option.some.inj h
    have e1 : r1 = (outF (rowsF (linesB a0) [])).1 := by rw [e]
    have e2 : r2 = (outF (rowsF (linesB a0) [])).2 := by rw [e]
    subst e1
    subst e2
    exact callsIn_wide.1 (Parse_in 8 (by omega) a0 hs _ w hT rfl)
  · cases h
end Go.Proofs.YtghecdmcghppnaaDoor
