/- A range over a function whose iterator keeps its state in a box of its own: the statement, outermost or in a round. -/
import Derived.RangeFuncLeaves
import Derived.RangeFuncSeq
import Derived.RangeFuncRecord
import Derived.RangeFuncCalls
namespace Go.Proofs.YtghecdmcghppnaaDoor
open Go.RowKit
variable {F : Fence} {n : Nat} {P : Program}
/-- What lies outside lo .. hi lies as it lay. -/
structure Oth (lo hi : Nat) (A B : World) : Prop where
  os : B.os = A.os
  tape : B.tape = A.tape
  output : B.output = A.output
  size : A.heap.size ≤ B.heap.size
  same : ∀ k, k < A.heap.size → ¬ (lo ≤ k ∧ k < hi) → B.heap[k]? = A.heap[k]?
/-- What lies in lo .. hi lies as it lay. -/
structure Inn (lo hi : Nat) (A B : World) : Prop where
  size : A.heap.size ≤ B.heap.size
  same : ∀ k, lo ≤ k → k < hi → B.heap[k]? = A.heap[k]?
theorem Inn.refl (lo hi : Nat) (A : World) : Inn lo hi A A := ⟨Nat.le_refl _, fun _ _ _ => rfl⟩
theorem Inn.trans {lo hi : Nat} {A B C : World} (h : Inn lo hi A B) (k : Inn lo hi B C) : Inn lo hi A C := ⟨Nat.le_trans h.size k.size, fun j a b => (k.same j a b).trans (h.same j a b)⟩
theorem Oth.refl (lo hi : Nat) (A : World) : Oth lo hi A A := ⟨rfl, rfl, rfl, Nat.le_refl _, fun _ _ _ => rfl⟩
theorem Oth.wider {lo hi hi' : Nat} {A B : World} (h : Oth lo hi A B) (hh : hi ≤ hi') : Oth lo hi' A B := ⟨h.os, h.tape, h.output, h.size, fun k hk hn => h.same k hk (by omega)⟩
theorem Oth.trans {lo hi : Nat} {A B C : World} (h : Oth lo hi A B) (k : Oth lo hi B C) : Oth lo hi A C :=
  ⟨k.os.trans h.os, k.tape.trans h.tape, k.output.trans h.output, Nat.le_trans h.size k.size, fun j a b => (k.same j (Nat.lt_of_lt_of_le a h.size) b).trans (h.same j a b)⟩
/-- How a round's body may be left. -/
def roundQ (lo hi : Nat) (I : Nat → World → Prop) (Ix : Code → World → Prop) (i : Nat) (A : World) : Exit → Act → World → Prop
  | .normal, _, B => Inn lo hi A B ∧ I (i + 1) B
  | .ret, _, B => Inn lo hi A B ∧ Ix .ret B
  | .exit id, _, B => Inn lo hi A B ∧ Ix (.exit id) B
  | .goto t, _, B => Inn lo hi A B ∧ Ix (.goto t) B
  | .panic _, _, _ => False
  | .outgrown, _, _ => False
/-- The iterator's contract: it hands out xs, one a round; of what lay it turns block lo alone; a round keeps its z boxes, from lo on. -/
def Iter {α : Type} (F : Fence) (n : Nat) (P : Program) (gf : Nat) (lb : Array Value) (lo z : Nat) (enc : α → Value) (xs : List α) (l : Nat) (W : World) : Prop :=
  ∀ (J : Nat → World → Prop) (Jx : World → Prop), (∀ i A B, J i A → Oth lo (lo + 1) A B → J i B) →
    (∀ i x A, J i A → xs[i]? = some x → YieldAt F (n - 1) P l #[enc x] A fun e B => (e = .returned (.bool true) ∧ J (i + 1) B ∧ Inn lo (lo + z) A B) ∨ (e = .returned (.bool false) ∧ Jx B)) →
    J 0 W → CallsIn F n P gf (#[.func (.yield l) #[] #[]] ++ lb) W fun e B => (∃ v, e = .returned v) ∧ (J xs.length B ∨ Jx B)
theorem range_core {α : Type} {g : Operand} {ps : Array Tmp} {assign body : Code} {Q : Exit → Act → World → Prop} {a : Act} {w : World} (w0 : World) (mark : List Deferred) (df : Nat)
    (he : ∀ fn, (Instr.enterLoop fn a.tmps ps assign body F.round).run P w = .ok (w0.heap.size, mark) (w0.alloc (.loop { state := .ready, pending := none, fn, tmps := a.tmps, params := ps, assign, body, defers := df })))
    (h1 : 1 ≤ n) {gf : Nat} {lb : Array Value} (hg : a.eval g = .func (.func gf) #[] lb) (hFg : F.fn gf) (eg : ∀ args w, (callFunc gf args).run P w = .ok (.enter gf args) w)
    (enc : α → Value) (xs : List α) (lo z : Nat) (hlo : lo + z ≤ w0.heap.size) (hz : 0 < z)
    (hit : ∀ W1 : World, W1.heap.size = w0.heap.size + 1 → (∀ k, k < w0.heap.size → W1.heap[k]? = w0.heap[k]?) → Iter F (n - 1) P gf lb lo z enc xs w0.heap.size W1)
    (hps : ps.size = 1) (I : Nat → World → Prop) (Ix : Code → World → Prop) (hI : ∀ i A B, I i A → Oth lo (w0.heap.size + 1) A B → I i B) (hIx : ∀ c A B, Ix c A → Oth lo (w0.heap.size + 1) A B → Ix c B) (h0 : I 0 w0) (a₁ : α → Act)
    (hassign : ∀ (x : α) (W : World) (K : Act → World → Prop), K (a₁ x) W →
      assign.wpIn (F.inRound w0.heap.size) (n - 1 - 1) P (Exit.then K (fun _ _ _ => False)) { tmps := (ps.zip #[enc x]).foldl (fun t (p, v) => t.setIfInBounds p v) a.tmps, defers := [] } W)
    (hbody : ∀ (i : Nat) (x : α) (W : World), xs[i]? = some x → (∃ r, W.heap[w0.heap.size]? = some (.loop r)) → (∀ k, lo < k → k < w0.heap.size → W.heap[k]? = w0.heap[k]?) → I i W →
      body.wpIn (F.inRound w0.heap.size) (n - 1 - 1) P (roundQ lo (w0.heap.size + 1) I Ix i W) (a₁ x) W)
    (hdone : ∀ (W : World), I xs.length W → (∀ k, lo < k → k < w0.heap.size → W.heap[k]? = w0.heap[k]?) → w0.heap.size < W.heap.size → Q .normal { a with defers := mark ++ a.defers } W)
    (hstop : ∀ (c : Code) (W : World), Ix c W → (∀ k, lo < k → k < w0.heap.size → W.heap[k]? = w0.heap[k]?) → w0.heap.size < W.heap.size → c.wpIn F n P Q { a with defers := mark ++ a.defers } W) :
    (Code.rangeFunc g ps assign body).wpIn F n P Q a w := by
  refine wpIn_rangeFunc ?_
  intro fn hfn
  obtain ⟨L, hL⟩ : ∃ L, w0.heap.size = L := ⟨_, rfl⟩
  obtain ⟨rec, hrec⟩ : ∃ rec : LoopState → Option Code → Loop, rec = fun st pe => { state := st, pending := pe, fn, tmps := a.tmps, params := ps, assign, body, defers := df } := ⟨_, rfl⟩
  have he1 := he fn
  obtain ⟨W1, hW1⟩ : ∃ W1, w0.alloc (.loop (rec .ready none)) = W1 := ⟨_, rfl⟩
  have hW1' : w0.alloc (.loop { state := .ready, pending := none, fn, tmps := a.tmps, params := ps, assign, body, defers := df }) = W1 := by rw [← hW1, hrec]
  rw [hW1'] at he1
  have hs1 : W1.heap.size = L + 1 := by rw [← hW1, World.size_alloc, hL]
  have ho1 : ∀ k, k < L → W1.heap[k]? = w0.heap[k]? := fun k hk => by rw [← hW1]; exact Below.heap_alloc _ _ k (by omega)
  have hL1 : W1.heap[L]? = some (.loop (rec .ready none)) := by rw [← hW1, ← hL]; exact World.alloc_heap_new w0 _
  have hI1 : I 0 W1 := hI 0 w0 W1 h0 ⟨by rw [← hW1]; rfl, by rw [← hW1]; rfl, by rw [← hW1]; rfl, by omega, fun k hk _ => ho1 k (by omega)⟩
  rw [hL] at he1 hit hI hIx hassign hbody hdone hstop hlo
  refine ⟨L, mark, W1, { target := .fn (.func gf) lb, args := #[.func (.yield L) #[] #[]] }, W1, gf, #[.func (.yield L) #[] #[]] ++ lb, W1, he1, ?_, ?_, ?_, fun _ => h1, ?_⟩
  · simp only [resolve, hg]
    simp [go_sem]
  · intro f' hf'
    simp [Target.leads] at hf'
    subst hf'
    exact hFg
  · simp [invoke, go_sem, eg]
  · have putO : ∀ (A : World) (o : Obj), Oth lo (L + 1) A (A.putObj L o) := fun A o => ⟨rfl, rfl, rfl, by simp, fun k _ hk => World.putObj_heap_other (by omega)⟩
    refine (hit W1 hs1 ho1 (fun i W => I i W ∧ (∀ k, lo < k → k < L → W.heap[k]? = w0.heap[k]?) ∧ W.heap[L]? = some (.loop (rec .ready none)))
      (fun W => ∃ c, Ix c W ∧ (∀ k, lo < k → k < L → W.heap[k]? = w0.heap[k]?) ∧ W.heap[L]? = some (.loop (rec .done (some c)))) ?_ ?_ ⟨hI1, fun k _ hk => ho1 k hk, hL1⟩).mono ?_
    · rintro i A B ⟨ha, hb, hc⟩ hoth
      have hlt := (Array.getElem?_eq_some_iff.1 hc).1
      have hsame := hoth.same
      exact ⟨hI i A B ha (hoth.wider (by omega)), fun k h2 h3 => (hsame k (by omega) (by omega)).trans (hb k h2 h3), (hsame L hlt (by omega)).trans hc⟩
    · rintro i x A ⟨ha, hb, hc⟩ hx
      have hlt := (Array.getElem?_eq_some_iff.1 hc).1
      have hy := run_yield (P := P) (args := #[enc x]) hc (by rw [hrec]; simp [hps])
      rw [hrec] at hy
      refine ⟨fn, _, assign, body, hy, roundIn_of_wpIn hfn (hassign x A _ ⟨_, run_beginRound hc (by rw [hrec]), ?_⟩)⟩
      have hl2 : (A.putObj L (.loop { rec .ready none with state := .busy })).heap[L]? = some (.loop { rec .ready none with state := .busy }) := World.putObj_heap_same hlt
      have hb2 : ∀ k, lo < k → k < L → (A.putObj L (.loop { rec .ready none with state := .busy })).heap[k]? = w0.heap[k]? := fun k h2 h3 => (World.putObj_heap_other (by omega)).trans (hb k h2 h3)
      refine wpIn_mono (hbody i x _ hx ⟨_, hl2⟩ hb2 (hI i _ _ ha (putO A _))) ?_
      have fin : ∀ (jump : Option Code) (W3 : World), Inn lo (L + 1) (A.putObj L (.loop { rec .ready none with state := .busy })) W3 →
          (Instr.endRound L jump).run P W3 = .ok (.bool jump.isNone) (W3.putObj L (.loop (rec (if jump.isNone then .ready else .done) jump))) ∧
          (∀ k, lo < k → k < L → (W3.putObj L (.loop (rec (if jump.isNone then .ready else .done) jump))).heap[k]? = w0.heap[k]?) ∧
          (W3.putObj L (.loop (rec (if jump.isNone then .ready else .done) jump))).heap[L]? = some (.loop (rec (if jump.isNone then .ready else .done) jump)) ∧
          Inn lo (lo + z) A (W3.putObj L (.loop (rec (if jump.isNone then .ready else .done) jump))) := fun jump W3 hk3 => by
        have hl3 := (hk3.same L (by omega) (by omega)).trans hl2
        have := run_endRound (P := P) jump hl3
        exact ⟨by rw [hrec] at this ⊢; exact this, fun k h2 h3 => (World.putObj_heap_other (by omega)).trans ((hk3.same k (by omega) (by omega)).trans (hb2 k h2 h3)), World.putObj_heap_same (Array.getElem?_eq_some_iff.1 hl3).1,
          ⟨by have := hk3.size; simp at this ⊢; omega, fun k h2 h3 => (World.putObj_heap_other (by omega)).trans ((hk3.same k h2 (by omega)).trans (World.putObj_heap_other (by omega)))⟩⟩
      rintro e a3 W3 hp
      cases e with
      | normal =>
        obtain ⟨hk3, hi3⟩ := hp
        obtain ⟨hr, h4, h5, h6⟩ := fin none W3 hk3
        exact ⟨_, _, hr, .inl ⟨rfl, ⟨hI _ _ _ hi3 (putO W3 _), h4, h5⟩, h6⟩⟩
      | ret =>
        obtain ⟨hk3, hi3⟩ := hp
        obtain ⟨hr, h4, h5, h6⟩ := fin (some .ret) W3 hk3
        exact ⟨_, _, hr, .inr ⟨rfl, .ret, hIx _ _ _ hi3 (putO W3 _), h4, h5⟩⟩
      | exit id =>
        obtain ⟨hk3, hi3⟩ := hp
        obtain ⟨hr, h4, h5, h6⟩ := fin (some (.exit id)) W3 hk3
        exact ⟨_, _, hr, .inr ⟨rfl, .exit id, hIx _ _ _ hi3 (putO W3 _), h4, h5⟩⟩
      | goto t =>
        obtain ⟨hk3, hi3⟩ := hp
        obtain ⟨hr, h4, h5, h6⟩ := fin (some (.goto t)) W3 hk3
        exact ⟨_, _, hr, .inr ⟨rfl, .goto t, hIx _ _ _ hi3 (putO W3 _), h4, h5⟩⟩
      | panic ch => exact hp.elim
      | outgrown => exact hp.elim
    · rintro e W2 ⟨⟨v, rfl⟩, (⟨hi, hb, hl⟩ | ⟨c, hi, hb, hl⟩)⟩
      · have hlt := (Array.getElem?_eq_some_iff.1 hl).1
        exact ⟨none, _, by have := run_endLoop (P := P) hl (by rw [hrec]; simp); rw [hrec] at this; exact this, hdone _ (hI _ _ _ hi (putO W2 _)) (fun k h2 h3 => (World.putObj_heap_other (by omega)).trans (hb k h2 h3)) (by simpa using hlt)⟩
      · have hlt := (Array.getElem?_eq_some_iff.1 hl).1
        exact ⟨some c, _, by have := run_endLoop (P := P) hl (by rw [hrec]; simp); rw [hrec] at this; exact this, hstop c _ (hIx _ _ _ hi (putO W2 _)) (fun k h2 h3 => (World.putObj_heap_other (by omega)).trans (hb k h2 h3)) (by simpa using hlt)⟩
end Go.Proofs.YtghecdmcghppnaaDoor
