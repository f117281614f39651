/- What is read as data at a type tells a value of a kind of the print's words: for whole numbers, bools, strings, slices and structs. No condition. -/
import Derived.Test.YtghnlhadohnenaaDoorWMore
import Derived.Deep.Slices
import Derived.Deep.Strs
import Derived.Lib.SmallJoins
namespace Go.Proofs.YtghnlhadohnenaaDoor
open Go.RowKit Go.Proofs.YtghnlhadohnenaaDoorW.PrintWords Go.Deep Go.ChangeShapes Go.WideShapes Go.ChangeAt Go.Joins
set_option linter.unusedVariables false
def Opens (P : Program) (T : TypeId) {α : Type} (d : Kd α) (wf : α → Prop) : Prop :=
  ∀ {H : Type} (enc : TypeId × Value → H) (W : World) (base : Nat) (spare : Nat → Bool) (held : Bool) (fuel : Nat) (cs : List Value) (x : DataW H × List MemPlace),
    DataW.trod enc P W base spare held fuel T cs = some x → ∃ a, d.K W a cs ∧ wf a
theorem opens_int {P : Program} {T : TypeId} {k : IntKind} (ht : P.underlying T = some (.int k)) : Opens P T (Kd.int k) (fun n => (Lit.int k n).wf = true) := by
  intro H enc W base spare held fuel cs x h
  obtain ⟨n, hc, _, hw⟩ := DataW.trod_int ht h
  exact ⟨n, hc, hw⟩
theorem opens_bool {P : Program} {T : TypeId} (ht : P.underlying T = some .bool) : Opens P T Kd.bool (fun _ => True) := by
  intro H enc W base spare held fuel cs x h
  obtain ⟨n, hc, _⟩ := DataW.trod_bool ht h
  exact ⟨n, hc, trivial⟩
theorem opens_string {P : Program} {T : TypeId} (ht : P.underlying T = some .string) : Opens P T Kd.string (fun s => s.size ≤ maxLen) := by
  intro H enc W base spare held fuel cs x h
  obtain ⟨n, hc, _, hl⟩ := DataW.trod_string ht h
  exact ⟨n, hc, hl⟩
theorem cells_at {w : World} {base : Nat} {a : Addr} {n : Nat} {cs : List Value} (h : w.cells? base a n = some cs) : cs.length = n ∧ ∀ i u, cs[i]? = some u → w.cell? (a.add i) = some u := by
  unfold World.cells? at h
  split at h
  · have hl := mapM_some_length h
    refine ⟨by simpa using hl, fun i u hu => ?_⟩
    have hi : i < n := by
      have := (List.getElem?_eq_some_iff.1 hu).1
      simp at hl
      omega
    have := mapM_some_get h i i (by simp [hi])
    rw [this, hu]
  · cases h
theorem opens_slice {P : Program} {T e : TypeId} {α : Type} {d : Kd α} {wf : α → Prop} (ht : P.underlying T = some (.slice e)) (hs : P.cellsOf e = d.sz) (ho : Opens P e d wf) :
    Opens P T (Kd.slice e d) (fun xs => xs.length ≤ maxLen ∧ ∀ x ∈ xs, wf x) := by
  intro H enc W base spare held fuel cs x h
  rcases open_slice ht h with ⟨rfl, _⟩ | ⟨a, len, cap, m, n, D, Pl, rfl, _, hl, hm, hmm, _, hel⟩
  · exact ⟨[], ⟨none, 0, rfl, Nat.le_refl _, rfl, by simp, fun h => absurd h (by simp)⟩, by simp [maxLen], by simp⟩
  · have hlm : len ≤ m := by rw [hmm]; split <;> omega
    by_cases h0 : len = 0
    · subst h0
      exact ⟨[], ⟨some a, cap, rfl, hl, rfl, by simp, fun h => absurd h (by simp)⟩, by simp [maxLen], by simp⟩
    · have key : ∀ i, i < len → ∃ x, (∃ c, c.length = d.sz ∧ d.K W x c ∧ ∀ j u, c[j]? = some u → W.cell? (a.add (i * d.sz + j)) = some u) ∧ wf x := by
        intro i hi
        obtain ⟨cs', hc, htr⟩ := hel i (by omega)
        obtain ⟨x, hk, hw⟩ := ho enc W base spare held n cs' _ htr
        rw [hs] at hc
        obtain ⟨hc1, hc2⟩ := cells_at hc
        exact ⟨x, ⟨cs', hc1, hk, fun j u hu => by rw [← Go.Deep.add_add]; exact hc2 j u hu⟩, hw⟩
      obtain ⟨x0, _⟩ := key 0 (by omega)
      haveI : Inhabited α := ⟨x0⟩
      obtain ⟨f, hf⟩ := choose_lt key
      refine ⟨(List.range len).map f, ⟨some a, cap, by simp, by simpa using hl, by simp, by unfold maxLen at hm; simp; omega, fun _ => ⟨a, rfl, fun j p hp => ?_⟩⟩, by simp; omega, ?_⟩
      · have hj : j < len := by
          have := (List.getElem?_eq_some_iff.1 hp).1
          simpa using this
        have : p = f j := by
          rw [List.getElem?_map, List.getElem?_range hj] at hp
          exact (Option.some.inj hp).symm
        subst this
        exact (hf j hj).1
      · intro y hy
        obtain ⟨j, hj, rfl⟩ := List.mem_map.1 hy
        exact (hf j (List.mem_range.1 hj)).2
theorem opens_iso {P : Program} {T : TypeId} {α β : Type} {d : Kd α} {f : β → α} (g : α → β) (hg : ∀ x, f (g x) = x) {wf : α → Prop} (ho : Opens P T d wf) : Opens P T (Kd.iso d f) (fun y => wf (f y)) := by
  intro H enc W base spare held fuel cs x h
  obtain ⟨a, hk, hw⟩ := ho enc W base spare held fuel cs x h
  refine ⟨g a, ?_, by show wf (f (g a)); rw [hg]; exact hw⟩
  show d.K W (f (g a)) cs
  rw [hg]
  exact hk
theorem opens_struct1 {P : Program} {T : TypeId} {f0 : Field} {α : Type} {a : Kd α} {wa : α → Prop} (ht : P.underlying T = some (.struct #[f0])) (hC : P.cellsOf T = a.sz) (c0 : P.cellsOf f0.type = a.sz) (o0 : f0.offset = 0)
    (ha : Opens P f0.type a wa) : Opens P T a wa := by
  intro H enc W base spare held fuel cs x h
  obtain ⟨y0, n, _, hl, h0⟩ := trod_struct1 ht h
  obtain ⟨u, hu, wu⟩ := ha enc W base spare held n _ _ h0
  refine ⟨u, ?_, wu⟩
  rw [o0, c0, List.drop_zero, List.take_of_length_le (by omega)] at hu
  exact hu
theorem opens_struct2 {P : Program} {T : TypeId} {f0 f1 : Field} {α β : Type} {a : Kd α} {b : Kd β} {wa : α → Prop} {wb : β → Prop} (ht : P.underlying T = some (.struct #[f0, f1])) (hC : P.cellsOf T = a.sz + b.sz) (c0 : P.cellsOf f0.type = a.sz) (c1 : P.cellsOf f1.type = b.sz) (o0 : f0.offset = 0) (o1 : f1.offset = a.sz)
    (ha : Opens P f0.type a wa) (hb : Opens P f1.type b wb) : Opens P T (Kd.pair a b) (fun x => wa x.1 ∧ wb x.2) := by
  intro H enc W base spare held fuel cs x h
  obtain ⟨y0, y1, n, _, hl, h0, h1⟩ := trod_struct2 ht h
  obtain ⟨u, hu, wu⟩ := ha enc W base spare held n _ _ h0
  obtain ⟨v, hv, wv⟩ := hb enc W base spare held n _ _ h1
  refine ⟨(u, v), ⟨_, _, ?_, hu, hv⟩, wu, wv⟩
  rw [o0, o1, c0, c1, List.drop_zero, List.take_of_length_le (l := cs.drop a.sz) (by rw [List.length_drop]; omega), List.take_append_drop]
theorem opens_struct3 {P : Program} {T : TypeId} {f0 f1 f2 : Field} {α β γ : Type} {a : Kd α} {b : Kd β} {c : Kd γ} {wa : α → Prop} {wb : β → Prop} {wc : γ → Prop} (ht : P.underlying T = some (.struct #[f0, f1, f2])) (hC : P.cellsOf T = a.sz + (b.sz + c.sz)) (c0 : P.cellsOf f0.type = a.sz) (c1 : P.cellsOf f1.type = b.sz) (c2 : P.cellsOf f2.type = c.sz) (o0 : f0.offset = 0) (o1 : f1.offset = a.sz) (o2 : f2.offset = a.sz + b.sz)
    (ha : Opens P f0.type a wa) (hb : Opens P f1.type b wb) (hc : Opens P f2.type c wc) : Opens P T (Kd.pair a (Kd.pair b c)) (fun x => wa x.1 ∧ wb x.2.1 ∧ wc x.2.2) := by
  intro H enc W base spare held fuel cs x h
  obtain ⟨y0, y1, y2, n, _, hl, h0, h1, h2⟩ := trod_struct3 ht h
  obtain ⟨u, hu, wu⟩ := ha enc W base spare held n _ _ h0
  obtain ⟨v, hv, wv⟩ := hb enc W base spare held n _ _ h1
  obtain ⟨z, hz, wz⟩ := hc enc W base spare held n _ _ h2
  refine ⟨(u, v, z), ⟨_, _, ?_, hu, _, _, rfl, hv, hz⟩, wu, wv, wz⟩
  rw [o0, o1, o2, c0, c1, c2, List.drop_zero, List.take_of_length_le (l := cs.drop (a.sz + b.sz)) (by rw [List.length_drop]; omega), ← List.drop_drop, List.take_append_drop, List.take_append_drop]
end Go.Proofs.YtghnlhadohnenaaDoor
