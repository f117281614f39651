/- A range over a function whose iterator keeps its state in a box of its own: the statement, outermost or in a round. strings.SplitSeq at a separator of one byte: what it hands out, one a round. Appends to rows of the call's own, within a fence. -/
import Derived.RangeFuncLeaves
import Derived.RangeFuncSeq
import Derived.RangeFuncRecord
import Derived.RangeFuncCalls
import Derived.Test.YtnbmdecehlljcaaGreatDoorShelg
import Derived.Test.YtnbmdecehlljcaaGreatDoorVerJ
import Derived.RangeFuncNested
import Derived.RangeFuncBound
import Derived.Shelf.Abstract
import Derived.Shelf.RegionOpen
import Derived.WalkKit
import Derived.OwnWalkIn
import Derived.TacticsInMore
import Derived.LoopNIn
import Derived.LoopIn
import Derived.Test.YtnbmdecehlljcaaGreatDoorWMore
import Derived.Maps.OwnIn
import Derived.Laws.Rows
namespace Go.Proofs.YtnbmdecehlljcaaGreatDoor
open Go.RowKit
variable {F : Fence} {n : Nat} {P : Program}
/-- What lies outside lo .. hi lies as it lay. -/
structure Oth (lo hi : Nat) (A B : World) : Prop where
  os : B.os = A.os
  tape : B.tape = A.tape
  output : B.output = A.output
  size : A.heap.size ≤ B.heap.size
  same : ∀ k, k < A.heap.size → ¬ (lo ≤ k ∧ k < hi) → B.heap[k]? = A.heap[k]?
/-- What lies in lo .. hi lies as it lay. -/
structure Inn (lo hi : Nat) (A B : World) : Prop where
  size : A.heap.size ≤ B.heap.size
  same : ∀ k, lo ≤ k → k < hi → B.heap[k]? = A.heap[k]?
theorem Inn.refl (lo hi : Nat) (A : World) : Inn lo hi A A := ⟨Nat.le_refl _, fun _ _ _ => rfl⟩
theorem Inn.trans {lo hi : Nat} {A B C : World} (h : Inn lo hi A B) (k : Inn lo hi B C) : Inn lo hi A C := ⟨Nat.le_trans h.size k.size, fun j a b => (k.same j a b).trans (h.same j a b)⟩
theorem Oth.refl (lo hi : Nat) (A : World) : Oth lo hi A A := ⟨rfl, rfl, rfl, Nat.le_refl _, fun _ _ _ => rfl⟩
theorem Oth.wider {lo hi hi' : Nat} {A B : World} (h : Oth lo hi A B) (hh : hi ≤ hi') : Oth lo hi' A B := ⟨h.os, h.tape, h.output, h.size, fun k hk hn => h.same k hk (by omega)⟩
theorem Oth.trans {lo hi : Nat} {A B C : World} (h : Oth lo hi A B) (k : Oth lo hi B C) : Oth lo hi A C :=
  ⟨k.os.trans h.os, k.tape.trans h.tape, k.output.trans h.output, Nat.le_trans h.size k.size, fun j a b => (k.same j (Nat.lt_of_lt_of_le a h.size) b).trans (h.same j a b)⟩
/-- How a round's body may be left. -/
def roundQ (lo hi : Nat) (I : Nat → World → Prop) (Ix : Code → World → Prop) (i : Nat) (A : World) : Exit → Act → World → Prop
  | .normal, _, B => Inn lo hi A B ∧ I (i + 1) B
  | .ret, _, B => Inn lo hi A B ∧ Ix .ret B
  | .exit id, _, B => Inn lo hi A B ∧ Ix (.exit id) B
  | .goto t, _, B => Inn lo hi A B ∧ Ix (.goto t) B
  | .panic _, _, _ => False
  | .outgrown, _, _ => False
/-- The iterator's contract: it hands out xs, one a round; of what lay it turns block lo alone; a round keeps its z boxes, from lo on. -/
def Iter {α : Type} (F : Fence) (n : Nat) (P : Program) (gf : Nat) (lb : Array Value) (lo z : Nat) (enc : α → Value) (xs : List α) (l : Nat) (W : World) : Prop :=
  ∀ (J : Nat → World → Prop) (Jx : World → Prop), (∀ i A B, J i A → Oth lo (lo + 1) A B → J i B) →
    (∀ i x A, J i A → xs[i]? = some x → YieldAt F (n - 1) P l #[enc x] A fun e B => (e = .returned (.bool true) ∧ J (i + 1) B ∧ Inn lo (lo + z) A B) ∨ (e = .returned (.bool false) ∧ Jx B)) →
    J 0 W → CallsIn F n P gf (#[.func (.yield l) #[] #[]] ++ lb) W fun e B => (∃ v, e = .returned v) ∧ (J xs.length B ∨ Jx B)
theorem range_core {α : Type} {g : Operand} {ps : Array Tmp} {assign body : Code} {Q : Exit → Act → World → Prop} {a : Act} {w : World} (w0 : World) (mark : List Deferred) (df : Nat)
    (he : ∀ fn, (Instr.enterLoop fn a.tmps ps assign body F.round).run P w = .ok (w0.heap.size, mark) (w0.alloc (.loop { state := .ready, pending := none, fn, tmps := a.tmps, params := ps, assign, body, defers := df })))
    (h1 : 1 ≤ n) {gf : Nat} {lb : Array Value} (hg : a.eval g = .func (.func gf) #[] lb) (hFg : F.fn gf) (eg : ∀ args w, (callFunc gf args).run P w = .ok (.enter gf args) w)
    (enc : α → Value) (xs : List α) (lo z : Nat) (hlo : lo + z ≤ w0.heap.size) (hz : 0 < z)
    (hit : ∀ W1 : World, W1.heap.size = w0.heap.size + 1 → (∀ k, k < w0.heap.size → W1.heap[k]? = w0.heap[k]?) → Iter F (n - 1) P gf lb lo z enc xs w0.heap.size W1)
    (hps : ps.size = 1) (I : Nat → World → Prop) (Ix : Code → World → Prop) (hI : ∀ i A B, I i A → Oth lo (w0.heap.size + 1) A B → I i B) (hIx : ∀ c A B, Ix c A → Oth lo (w0.heap.size + 1) A B → Ix c B) (h0 : I 0 w0) (a₁ : α → Act)
    (hassign : ∀ (x : α) (W : World) (K : Act → World → Prop), K (a₁ x) W →
      assign.wpIn (F.inRound w0.heap.size) (n - 1 - 1) P (Exit.then K (fun _ _ _ => False)) { tmps := (ps.zip #[enc x]).foldl (fun t (p, v) => t.setIfInBounds p v) a.tmps, defers := [] } W)
    (hbody : ∀ (i : Nat) (x : α) (W : World), xs[i]? = some x → (∃ r, W.heap[w0.heap.size]? = some (.loop r)) → (∀ k, lo < k → k < w0.heap.size → W.heap[k]? = w0.heap[k]?) → I i W →
      body.wpIn (F.inRound w0.heap.size) (n - 1 - 1) P (roundQ lo (w0.heap.size + 1) I Ix i W) (a₁ x) W)
    (hdone : ∀ (W : World), I xs.length W → (∀ k, lo < k → k < w0.heap.size → W.heap[k]? = w0.heap[k]?) → w0.heap.size < W.heap.size → Q .normal { a with defers := mark ++ a.defers } W)
    (hstop : ∀ (c : Code) (W : World), Ix c W → (∀ k, lo < k → k < w0.heap.size → W.heap[k]? = w0.heap[k]?) → w0.heap.size < W.heap.size → c.wpIn F n P Q { a with defers := mark ++ a.defers } W) :
    (Code.rangeFunc g ps assign body).wpIn F n P Q a w := by
  refine wpIn_rangeFunc ?_
  intro fn hfn
  obtain ⟨L, hL⟩ : ∃ L, w0.heap.size = L := ⟨_, rfl⟩
  obtain ⟨rec, hrec⟩ : ∃ rec : LoopState → Option Code → Loop, rec = fun st pe => { state := st, pending := pe, fn, tmps := a.tmps, params := ps, assign, body, defers := df } := ⟨_, rfl⟩
  have he1 := he fn
  obtain ⟨W1, hW1⟩ : ∃ W1, w0.alloc (.loop (rec .ready none)) = W1 := ⟨_, rfl⟩
  have hW1' : w0.alloc (.loop { state := .ready, pending := none, fn, tmps := a.tmps, params := ps, assign, body, defers := df }) = W1 := by rw [← hW1, hrec]
  rw [hW1'] at he1
  have hs1 : W1.heap.size = L + 1 := by rw [← hW1, World.size_alloc, hL]
  have ho1 : ∀ k, k < L → W1.heap[k]? = w0.heap[k]? := fun k hk => by rw [← hW1]; exact Below.heap_alloc _ _ k (by omega)
  have hL1 : W1.heap[L]? = some (.loop (rec .ready none)) := by rw [← hW1, ← hL]; exact World.alloc_heap_new w0 _
  have hI1 : I 0 W1 := hI 0 w0 W1 h0 ⟨by rw [← hW1]; rfl, by rw [← hW1]; rfl, by rw [← hW1]; rfl, by omega, fun k hk _ => ho1 k (by omega)⟩
  rw [hL] at he1 hit hI hIx hassign hbody hdone hstop hlo
  refine ⟨L, mark, W1, { target := .fn (.func gf) lb, args := #[.func (.yield L) #[] #[]] }, W1, gf, #[.func (.yield L) #[] #[]] ++ lb, W1, he1, ?_, ?_, ?_, fun _ => h1, ?_⟩
  · simp only [resolve, hg]
    simp [go_sem]
  · intro f' hf'
    simp [Target.leads] at hf'
    subst hf'
    exact hFg
  · simp [invoke, go_sem, eg]
  · have putO : ∀ (A : World) (o : Obj), Oth lo (L + 1) A (A.putObj L o) := fun A o => ⟨rfl, rfl, rfl, by simp, fun k _ hk => World.putObj_heap_other (by omega)⟩
    refine (hit W1 hs1 ho1 (fun i W => I i W ∧ (∀ k, lo < k → k < L → W.heap[k]? = w0.heap[k]?) ∧ W.heap[L]? = some (.loop (rec .ready none)))
      (fun W => ∃ c, Ix c W ∧ (∀ k, lo < k → k < L → W.heap[k]? = w0.heap[k]?) ∧ W.heap[L]? = some (.loop (rec .done (some c)))) ?_ ?_ ⟨hI1, fun k _ hk => ho1 k hk, hL1⟩).mono ?_
    · rintro i A B ⟨ha, hb, hc⟩ hoth
      have hlt := (Array.getElem?_eq_some_iff.1 hc).1
      have hsame := hoth.same
      exact ⟨hI i A B ha (hoth.wider (by omega)), fun k h2 h3 => (hsame k (by omega) (by omega)).trans (hb k h2 h3), (hsame L hlt (by omega)).trans hc⟩
    · rintro i x A ⟨ha, hb, hc⟩ hx
      have hlt := (Array.getElem?_eq_some_iff.1 hc).1
      have hy := run_yield (P := P) (args := #[enc x]) hc (by rw [hrec]; simp [hps])
      rw [hrec] at hy
      refine ⟨fn, _, assign, body, hy, roundIn_of_wpIn hfn (hassign x A _ ⟨_, run_beginRound hc (by rw [hrec]), ?_⟩)⟩
      have hl2 : (A.putObj L (.loop { rec .ready none with state := .busy })).heap[L]? = some (.loop { rec .ready none with state := .busy }) := World.putObj_heap_same hlt
      have hb2 : ∀ k, lo < k → k < L → (A.putObj L (.loop { rec .ready none with state := .busy })).heap[k]? = w0.heap[k]? := fun k h2 h3 => (World.putObj_heap_other (by omega)).trans (hb k h2 h3)
      refine wpIn_mono (hbody i x _ hx ⟨_, hl2⟩ hb2 (hI i _ _ ha (putO A _))) ?_
      have fin : ∀ (jump : Option Code) (W3 : World), Inn lo (L + 1) (A.putObj L (.loop { rec .ready none with state := .busy })) W3 →
          (Instr.endRound L jump).run P W3 = .ok (.bool jump.isNone) (W3.putObj L (.loop (rec (if jump.isNone then .ready else .done) jump))) ∧
          (∀ k, lo < k → k < L → (W3.putObj L (.loop (rec (if jump.isNone then .ready else .done) jump))).heap[k]? = w0.heap[k]?) ∧
          (W3.putObj L (.loop (rec (if jump.isNone then .ready else .done) jump))).heap[L]? = some (.loop (rec (if jump.isNone then .ready else .done) jump)) ∧
          Inn lo (lo + z) A (W3.putObj L (.loop (rec (if jump.isNone then .ready else .done) jump))) := fun jump W3 hk3 => by
        have hl3 := (hk3.same L (by omega) (by omega)).trans hl2
        have := run_endRound (P := P) jump hl3
        exact ⟨by rw [hrec] at this ⊢; exact this, fun k h2 h3 => (World.putObj_heap_other (by omega)).trans ((hk3.same k (by omega) (by omega)).trans (hb2 k h2 h3)), World.putObj_heap_same (Array.getElem?_eq_some_iff.1 hl3).1,
          ⟨by have := hk3.size; simp at this ⊢; omega, fun k h2 h3 => (World.putObj_heap_other (by omega)).trans ((hk3.same k h2 (by omega)).trans (World.putObj_heap_other (by omega)))⟩⟩
      rintro e a3 W3 hp
      cases e with
      | normal =>
        obtain ⟨hk3, hi3⟩ := hp
        obtain ⟨hr, h4, h5, h6⟩ := fin none W3 hk3
        exact ⟨_, _, hr, .inl ⟨rfl, ⟨hI _ _ _ hi3 (putO W3 _), h4, h5⟩, h6⟩⟩
      | ret =>
        obtain ⟨hk3, hi3⟩ := hp
        obtain ⟨hr, h4, h5, h6⟩ := fin (some .ret) W3 hk3
        exact ⟨_, _, hr, .inr ⟨rfl, .ret, hIx _ _ _ hi3 (putO W3 _), h4, h5⟩⟩
      | exit id =>
        obtain ⟨hk3, hi3⟩ := hp
        obtain ⟨hr, h4, h5, h6⟩ := fin (some (.exit id)) W3 hk3
        exact ⟨_, _, hr, .inr ⟨rfl, .exit id, hIx _ _ _ hi3 (putO W3 _), h4, h5⟩⟩
      | goto t =>
        obtain ⟨hk3, hi3⟩ := hp
        obtain ⟨hr, h4, h5, h6⟩ := fin (some (.goto t)) W3 hk3
        exact ⟨_, _, hr, .inr ⟨rfl, .goto t, hIx _ _ _ hi3 (putO W3 _), h4, h5⟩⟩
      | panic ch => exact hp.elim
      | outgrown => exact hp.elim
    · rintro e W2 ⟨⟨v, rfl⟩, (⟨hi, hb, hl⟩ | ⟨c, hi, hb, hl⟩)⟩
      · have hlt := (Array.getElem?_eq_some_iff.1 hl).1
        exact ⟨none, _, by have := run_endLoop (P := P) hl (by rw [hrec]; simp); rw [hrec] at this; exact this, hdone _ (hI _ _ _ hi (putO W2 _)) (fun k h2 h3 => (World.putObj_heap_other (by omega)).trans (hb k h2 h3)) (by simpa using hlt)⟩
      · have hlt := (Array.getElem?_eq_some_iff.1 hl).1
        exact ⟨some c, _, by have := run_endLoop (P := P) hl (by rw [hrec]; simp); rw [hrec] at this; exact this, hstop c _ (hIx _ _ _ hi (putO W2 _)) (fun k h2 h3 => (World.putObj_heap_other (by omega)).trans (hb k h2 h3)) (by simpa using hlt)⟩
end Go.Proofs.YtnbmdecehlljcaaGreatDoor
namespace Go.Proofs.YtnbmdecehlljcaaGreatDoor
open Go.RowKit Go.Shelf
set_option linter.unusedVariables false
set_option linter.unusedSimpArgs false
theorem idx_split (c : UInt8) : ∀ l : List UInt8, (Lib.indexByte l c = -1 ∧ splitOn c l = [l]) ∨ ∃ p t, Lib.indexByte l c = (p.length : Int) ∧ l = p ++ c :: t ∧ splitOn c l = p :: splitOn c t
  | [] => .inl ⟨rfl, rfl⟩
  | b :: l => by
    by_cases hb : b = c
    · subst hb
      refine .inr ⟨[], l, by simp [Lib.indexByte], rfl, ?_⟩
      simp [splitOn]
    · rcases idx_split c l with ⟨h1, h2⟩ | ⟨p, t, h1, h2, h3⟩
      · refine .inl ⟨by simp [Lib.indexByte, hb, h1], ?_⟩
        simp [splitOn, hb, h2]
      · refine .inr ⟨b :: p, t, ?_, by rw [h2]; rfl, ?_⟩
        · have : ¬ ((p.length : Int) = -1) := by omega
          simp [Lib.indexByte, hb, h1, this]
        · simp [splitOn, hb, h3]
/-- How much the iterator's box still holds. -/
def leftS (lo : Nat) (W : World) : Nat := match W.cell? ⟨lo, 0, none⟩ with
  | some (.string r) => r.size
  | _ => 0
theorem leftS_eq {lo : Nat} {W : World} {t : TypeId} {r : ByteArray} (h : Boxed W lo t (.string r)) : leftS lo W = r.size := by
  unfold leftS
  rw [h.cell]
theorem Boxed.inn {lo z b : Nat} {A B : World} {t : TypeId} {v : Value} (h : Boxed A b t v) (k : Inn lo (lo + z) A B) (h1 : lo ≤ b) (h2 : b < lo + z) : Boxed B b t v := (k.same b h1 h2).trans h
section
attribute [local go_sem] Oper.semAt_some
set_option maxRecDepth 100000 in
set_option maxHeartbeats 4000000 in
theorem split_iter (n : Nat) (hn : 1 ≤ n) (c : UInt8) (s : ByteArray) (hs : s.size ≤ 4294967280) (xs : List ByteArray) (hxs : xs.map (·.data.toList) = splitOn c s.data.toList) (lo l : Nat) (W : World)
    (b0 : Boxed W lo 9 (.string s)) (b1 : Boxed W (lo + 1) 9 (.string ⟨#[c]⟩)) (b2 : Boxed W (lo + 2) 3 (.int .i64 0)) :
    Iter Fence.wide n Tryz.prog 112 #[.pointer (some ⟨lo + 1, 0, none⟩), .pointer (some ⟨lo, 0, none⟩), .pointer (some ⟨lo + 2, 0, none⟩)] lo 3 Value.string xs l W := by
  intro J Jx hJ hY h0
  show CallsIn Fence.wide n Tryz.prog 112 #[.func (.yield l) #[] #[], .pointer (some ⟨lo + 1, 0, none⟩), .pointer (some ⟨lo, 0, none⟩), .pointer (some ⟨lo + 2, 0, none⟩)] W _
  refine callsIn_of_wp Tryz.func112 rfl trivial ?_ rfl
  simp only [Tryz.ntmps112, List.size_toArray, List.length_cons, List.length_nil, Nat.reduceAdd, Nat.reduceSub, Array.replicate_succ, Array.replicate_zero, List.push_toArray, List.append_toArray, List.nil_append, List.cons_append]
  have c1 := b1.cell
  have z1 : (⟨#[c]⟩ : ByteArray).size = 1 := rfl
  gi_wp2
  gi_loopw [7, 8] (fun v7 v8 wr => ∃ (i : Nat) (rest : ByteArray), Boxed wr lo 9 (.string rest) ∧ Boxed wr (lo + 1) 9 (.string ⟨#[c]⟩) ∧ Boxed wr (lo + 2) 3 (.int .i64 0) ∧ rest.size ≤ 4294967280 ∧ (xs.drop i).map (·.data.toList) = splitOn c rest.data.toList ∧ J i wr)
    (fun v7 v8 wr => leftS lo wr)
  case atStart => exact ⟨0, s, b0, b1, b2, hs, hxs, h0⟩
  case round =>
    obtain ⟨i, rest, B0, B1, B2, hr, hx, hj⟩ := hrel
    have d0 := B0.cell
    have d1 := B1.cell
    have d2 := B2.cell
    rcases idx_split c rest.data.toList with ⟨hi, hsp⟩ | ⟨p, t, hi, hd, hsp⟩
    · rw [hsp] at hx
      obtain ⟨hl1, hl2⟩ : xs[i]? = some rest ∧ xs.length = i + 1 := by
        have h1 := congrArg List.length hx
        simp at h1
        have hlt : i < xs.length := by omega
        rw [List.drop_eq_getElem_cons hlt] at hx
        simp only [List.map_cons, List.cons.injEq] at hx
        refine ⟨?_, by omega⟩
        rw [List.getElem?_eq_getElem hlt]
        congr 1
        apply ByteArray.ext
        apply Array.ext'
        exact hx.1
      obtain ⟨fn, tmps, assign, body, hy, hR⟩ := hY i rest wr hj hl1
      gi_wp2_with (refine ⟨trivial, ?_⟩; gi_at_call 114; refine (callsIn_wide.2 (Tryz.strings_Index_one rest c wr)).mono ?_; rintro e w' ⟨rfl, rfl⟩; rw [hi])
      refine hR.mono ?_
      rintro e W3 (⟨rfl, hJ3, hk3⟩ | ⟨rfl, hJx3⟩)
      · gi_wp2
        go_end0
        exact ⟨⟨_, rfl⟩, .inl (by rw [hl2]; exact hJ3)⟩
      · gi_wp2
        go_end0
        exact ⟨⟨_, rfl⟩, .inr hJx3⟩
    · rw [hsp] at hx
      obtain ⟨x, hl1, hxd, hx2⟩ : ∃ x, xs[i]? = some x ∧ x.data.toList = p ∧ (xs.drop (i + 1)).map (·.data.toList) = splitOn c t := by
        have hlt : i < xs.length := by
          rcases Nat.lt_or_ge i xs.length with h | h
          · exact h
          · rw [List.drop_eq_nil_of_le h] at hx
            cases hx
        rw [List.drop_eq_getElem_cons hlt] at hx
        simp only [List.map_cons, List.cons.injEq] at hx
        exact ⟨xs[i], List.getElem?_eq_getElem hlt, hx.1, hx.2⟩
      have hrs : rest.size = p.length + 1 + t.length := by
        rw [Lib.size_eq, hd]
        simp
        omega
      have hex : rest.extract 0 p.length = x := by
        apply ByteArray.ext
        apply Array.ext'
        rw [hxd]
        simp [ByteArray.data_extract, hd]
      obtain ⟨u, hu, hud⟩ : ∃ u : ByteArray, rest.extract (p.length + 1) rest.size = u ∧ u.data.toList = t := by
        refine ⟨_, rfl, ?_⟩
        simp [ByteArray.data_extract, hd]
        rw [hrs]
        simp
      obtain ⟨fn, tmps, assign, body, hy, hR⟩ := hY i x wr hj hl1
      have q1 : ((p.length : Int) < 0) = False := by simp
      have q2 : (p.length : Int) ≤ (rest.size : Int) := by omega
      have q3 : ((p.length : Int) + 1) ≤ (rest.size : Int) := by omega
      gi_wp2_with (refine ⟨trivial, ?_⟩; gi_at_call 114; refine (callsIn_wide.2 (Tryz.strings_Index_one rest c wr)).mono ?_; rintro e w' ⟨rfl, rfl⟩; rw [hi])
      refine hR.mono ?_
      rintro e W3 (⟨rfl, hJ3, hk3⟩ | ⟨rfl, hJx3⟩)
      · have E0 := Boxed.inn B0 hk3 (Nat.le_refl _) (by omega)
        have E1 := Boxed.inn B1 hk3 (by omega) (by omega)
        have E2 := Boxed.inn B2 hk3 (by omega) (by omega)
        have f0 := E0.cell
        have f1 := E1.cell
        have f2 := E2.cell
        have f3 := E0.frozen
        gi_wp2
        rw [← hrs, hu]
        refine ⟨⟨i + 1, u, E0.set _, E1.other (by omega) _, E2.other (by omega) _, ?_, ?_, ?_⟩, ?_⟩
        · rw [Lib.size_eq, hud]
          omega
        · rw [hud]
          exact hx2
        · exact hJ _ _ _ hJ3 ⟨rfl, rfl, rfl, by simp, fun k _ hk => Below.heap_setCell _ _ _ k (by simp only []; omega)⟩
        · rw [leftS_eq (E0.set (.string u)), leftS_eq B0, Lib.size_eq u, hud]
          omega
      · gi_wp2
        refine bodyPost_ret (results_none rfl _ _ _) rfl ?_
        exact ⟨⟨_, rfl⟩, .inr hJx3⟩
end
theorem splitSeq_calls (s sep : ByteArray) (w : World) : Calls Tryz.prog 81 #[.string s, .string sep, .int .i64 0] w fun e w' =>
    e = .returned (.func (.func 112) #[] #[.pointer (some ⟨w.heap.size + 1, 0, none⟩), .pointer (some ⟨w.heap.size, 0, none⟩), .pointer (some ⟨w.heap.size + 2, 0, none⟩)]) ∧
      w' = ((w.alloc (.cells #[.string s] 9)).alloc (.cells #[.string sep] 9)).alloc (.cells #[.int .i64 0] 3) := by
  go_enter Tryz.func81, Tryz.ntmps81
  go_wp2
  go_ret
  exact ⟨by simp, rfl⟩
theorem SplitSeq_calls (s sep : ByteArray) (w : World) : Calls Tryz.prog 49 #[.string s, .string sep] w fun e w' =>
    e = .returned (.func (.func 112) #[] #[.pointer (some ⟨w.heap.size + 1, 0, none⟩), .pointer (some ⟨w.heap.size, 0, none⟩), .pointer (some ⟨w.heap.size + 2, 0, none⟩)]) ∧
      w' = ((w.alloc (.cells #[.string s] 9)).alloc (.cells #[.string sep] 9)).alloc (.cells #[.int .i64 0] 3) := by
  go_enter Tryz.func49, Tryz.ntmps49
  go_wp2_with (go_at_call 81; refine (splitSeq_calls s sep w).mono ?_; rintro e w' ⟨rfl, rfl⟩)
  go_ret
  exact ⟨rfl, rfl⟩
end Go.Proofs.YtnbmdecehlljcaaGreatDoor
namespace Go.Proofs.YtnbmdecehlljcaaGreatDoor
open Go.RowKit Go.Proofs.YtnbmdecehlljcaaGreatDoorW.PrintWords Go.Proofs.YtnbmdecehlljcaaGreatDoorW.PrintLast Go.Proofs.YtnbmdecehlljcaaGreatDoorW.PrintMore
variable {F : Fence} {nF : Nat} {P : Program} {ops : Array Oper} {rest : List Oper} {o : Oper} {a : Act} {Q : Exit → Act → World → Prop} {α : Type}
theorem in_append_cells {w0 W : World} (base : Nat) (hgd : o.guard = none) (s x : Operand) (t e : TypeId) (z : Value) (size bytes : Nat)
    (ho : o.op = .call { callee := .builtin .append, args := #[s, x], argTypes := #[t, t] })
    (ht : P.underlying t = some (.slice e)) (hinfo : (P.info? e).map (fun i => (i.zero, i.size, i.bytes)) = some (some z, size, bytes)) (hz : z.cells.size = size) (hs0 : 0 < size) (hb0 : 0 < bytes)
    (v : Value) (n : Nat) (xs ys : List Value) (hs : a.eval s = v) (hx : a.eval x = .slice (some ⟨W.heap.size, 0, none⟩) 1 1) (hys : ys.length = size) (h1 : ∀ u ∈ ys, u.oneCell' = true)
    (HO : W.ownsRow base e size v n xs) (HB : Below base w0 W) (hbase : base ≤ W.heap.size) (hl : (n + 1) * bytes ≤ 140737488355328)
    (h : ∀ v1 w1, w1.ownsRow base e size v1 (n + 1) (xs ++ ys) → Below base w0 w1 → W.grownBy w1 v.ownBlock → (v1.ownBlock = v.ownBlock ∨ ∃ b, v1.ownBlock = some b ∧ W.heap.size ≤ b) → wpListIn F nF P ops Q rest (a.put o.dst v1) w1) :
    wpListIn F nF P ops Q (o :: rest) a (W.alloc (.cells ys.toArray e)) := by
  obtain ⟨i0, hi, hzz⟩ := Option.map_eq_some_iff.1 hinfo
  simp only [Prod.mk.injEq] at hzz
  obtain ⟨hz0, hz1, hz2⟩ := hzz
  have hlen : n + 1 ≤ 140737488355328 := Nat.le_trans (Nat.le_mul_of_pos_right _ hb0) hl
  refine wpListIn_append_own_at (W.alloc (.cells ys.toArray e)) hgd s x t ho base e i0 z size bytes ht hi hz0 hz1 hz2 hz hs0 v n xs hs (HO.alloc _) ⟨W.heap.size, 0, none⟩ 1 1 ys hx (by rw [hys]; simp)
    (by simpa using World.news_of_block (cs := ys.toArray) (t := e) (fr := (0, 0)) (heap_alloc_new W (.cells ys.toArray e))) h1 (by simp only [maxLen]; omega) hl (by simp; omega) ?_
  intro v1 w1 hown hg _ hat
  refine h v1 w1 hown ((HB.alloc hbase _).grown hg (by simp; omega) (own_base HO)) (World.grownBy.trans (World.grownBy_alloc W _ _) hg) ?_
  rcases hat with hat | hat
  · exact .inl hat
  · exact .inr ⟨_, hat, by simp⟩
theorem R_in_append (d : Kd α) {w0 W : World} (base : Nat) (hgd : o.guard = none) (s x : Operand) (t e : TypeId) (z : Value) (bytes : Nat)
    (ho : o.op = .call { callee := .builtin .append, args := #[s, x], argTypes := #[t, t] })
    (ht : P.underlying t = some (.slice e)) (hinfo : (P.info? e).map (fun i => (i.zero, i.size, i.bytes)) = some (some z, d.sz, bytes)) (hz : z.cells.size = d.sz) (hs0 : 0 < d.sz) (hb0 : 0 < bytes)
    (v : Value) (xs : List α) (p : α) (cs : List Value) (ok okp : Nat → Prop) (hs : a.eval s = v) (hx : a.eval x = .slice (some ⟨W.heap.size, 0, none⟩) 1 1) (hp : d.M W base okp p cs) (hokp : ∀ k, okp k → ok k ∧ some k ≠ v.ownBlock) (hfresh : ∀ k, W.heap.size ≤ k → ok k)
    (HO : d.R e W base ok v xs) (HB : Below base w0 W) (hbase : base ≤ W.heap.size) (hl : (xs.length + 1) * bytes ≤ 140737488355328)
    (h : ∀ v1 w1, d.R e w1 base ok v1 (xs ++ [p]) → Below base w0 w1 → W.grownBy w1 v.ownBlock → (v1.ownBlock = v.ownBlock ∨ ∃ b, v1.ownBlock = some b ∧ W.heap.size ≤ b) → wpListIn F nF P ops Q rest (a.put o.dst v1) w1) :
    wpListIn F nF P ops Q (o :: rest) a (W.alloc (.cells cs.toArray e)) := by
  obtain ⟨h0, inner, hown, hr⟩ := HO
  refine in_append_cells base hgd s x t e z d.sz bytes ho ht hinfo hz hs0 hb0 v xs.length inner cs hs hx (d.K_len (d.K_of_M hp)) (d.K_one (d.K_of_M hp)) hown HB hbase hl ?_
  intro v1 w1 hown1 hb1 hg1 hat1
  exact h v1 w1 (Kd.R_appended h0 hr hp hokp hfresh hown1 hg1 hat1) hb1 hg1 hat1
theorem S_in_append (d : Kd α) {w0 W : World} (base : Nat) (hgd : o.guard = none) (s x : Operand) (t e : TypeId) (z : Value) (bytes : Nat)
    (ho : o.op = .call { callee := .builtin .append, args := #[s, x], argTypes := #[t, t] })
    (ht : P.underlying t = some (.slice e)) (hinfo : (P.info? e).map (fun i => (i.zero, i.size, i.bytes)) = some (some z, d.sz, bytes)) (hz : z.cells.size = d.sz) (hs0 : 0 < d.sz) (hb0 : 0 < bytes)
    (v : Value) (xs : List α) (p : α) (cs : List Value) (ok okp : Nat → Prop) (hs : a.eval s = v) (hx : a.eval x = .slice (some ⟨W.heap.size, 0, none⟩) 1 1) (hp : d.M W base okp p cs) (hokp : ∀ k, okp k → ok k ∧ some k ≠ v.ownBlock) (hfresh : ∀ k, W.heap.size ≤ k → ok k)
    (HO : Kd.S d e W base (fun k => ok k ∧ ¬ okp k) v xs) (HB : Below base w0 W) (hbase : base ≤ W.heap.size) (hl : (xs.length + 1) * bytes ≤ 140737488355328)
    (h : ∀ v1 w1, Kd.S d e w1 base ok v1 (xs ++ [p]) → Below base w0 w1 → W.grownBy w1 v.ownBlock → (v1.ownBlock = v.ownBlock ∨ ∃ b, v1.ownBlock = some b ∧ W.heap.size ≤ b) → wpListIn F nF P ops Q rest (a.put o.dst v1) w1) :
    wpListIn F nF P ops Q (o :: rest) a (W.alloc (.cells cs.toArray e)) := by
  obtain ⟨f, hf, hR⟩ := Kd.S_tag HO xs.length okp (fun _ hk h2 => h2.2 hk)
  refine R_in_append (Kd.tag f d) base hgd s x t e z bytes ho ht hinfo hz hs0 hb0 v xs.zipIdx (p, xs.length) cs ok okp hs hx (d.M_mono (fun k hk => ⟨hk, hf k hk⟩) hp) hokp hfresh (Kd.R_mono hR (fun _ hk => hk.1)) HB hbase (by rw [List.length_zipIdx]; exact hl) ?_
  intro v1 w1 hr
  rw [← Kd.zip_snoc] at hr
  exact h v1 w1 ⟨f, hr⟩
end Go.Proofs.YtnbmdecehlljcaaGreatDoor
