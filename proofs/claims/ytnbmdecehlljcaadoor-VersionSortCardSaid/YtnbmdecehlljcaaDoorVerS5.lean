/- Plain law: VersionSort. -/
import Derived.Test.YtnbmdecehlljcaaDoorPVerx14
import Derived.Test.YtnbmdecehlljcaaDoorVerS3
namespace Go.Proofs.YtnbmdecehlljcaaDoor
open Go.RowKit Go.Lib Go.Proofs.YtnbmdecehlljcaaDoorW.PrintWords Go.Proofs.YtnbmdecehlljcaaDoorW.PrintLast Go.Proofs.YtnbmdecehlljcaaDoorW.PrintMore PVer
set_option linter.unusedVariables false
set_option linter.unusedSimpArgs false
/-! ### Sort -/
theorem sameS_l0 (a b : List ByteArray) (he : a.length = b.length) (hl : a.length ≤ 1000000000) : ∀ (d i : Nat), i + d = a.length → (∀ q, q < i → a.getD q ByteArray.empty = b.getD q ByteArray.empty) → Ev (fun k => tithebarnkit_SameTexts.l0 k a b i) (decide (a = b)) := by
  intro d
  induction d with
  | zero =>
    intro i hi hq
    have : a = b := List.ext_getElem he (fun q q1 q2 => by have := hq q (by omega); simpa [q1, q2] using this)
    rw [decide_eq_true this]
    refine Ev.step (f := fun _ => some true) (fun k => ?_) (Ev.now _)
    simp only [tithebarnkit_SameTexts.l0]
    rw [if_neg (by omega)]
  | succ d ih =>
    intro i hi hq
    by_cases e : a.getD i ByteArray.empty = b.getD i ByteArray.empty
    · refine Ev.step (fun k => ?_) (ih (i + 1) (by omega) (fun q hq' => by
        by_cases e' : q = i
        · rw [e']; exact e
        · exact hq q (by omega)))
      simp only [tithebarnkit_SameTexts.l0]
      rw [if_pos (by omega), if_pos (by omega), if_pos (by omega), rdS_nat, rdS_nat, if_pos (by rw [e]), wrap_id (by omega) (by omega)]
      rfl
    · rw [decide_eq_false (fun h => e (by rw [h]))]
      refine Ev.step (f := fun _ => some false) (fun k => ?_) (Ev.now _)
      simp only [tithebarnkit_SameTexts.l0]
      rw [if_pos (by omega), if_pos (by omega), if_pos (by omega), rdS_nat, rdS_nat, if_neg (by rw [ByteArray.toList_eq, ByteArray.toList_eq]; exact fun h => e (ba_eq.2 h))]
theorem sameS_ev (a b : List ByteArray) (hl : a.length ≤ 1000000000) : Ev (fun k => tithebarnkit_SameTexts.f k a b) (decide (a = b)) := by
  by_cases h : a.length = b.length
  · refine Ev.congr (f := fun k => tithebarnkit_SameTexts.l0 k a b ((0 : Nat) : Int)) (fun k => by unfold tithebarnkit_SameTexts.f; rw [if_pos (by omega)]; rfl) (sameS_l0 a b h hl a.length 0 (by omega) (fun q hq => absurd hq (Nat.not_lt_zero _)))
  · rw [decide_eq_false (fun e => h (by rw [e]))]
    exact Ev.congr (f := fun _ => some false) (fun k => by unfold tithebarnkit_SameTexts.f; rw [if_neg (by omega)]) (Ev.now _)
def bubL : List ByteArray → ByteArray → List ByteArray → List ByteArray
  | [], x, suf => x :: suf
  | y :: pre, x, suf => if cfT x y < 0 then bubL pre x (y :: suf) else bubL pre y (x :: suf)
theorem bub_perm : ∀ (pre : List ByteArray) (x : ByteArray) (suf : List ByteArray), (bubL pre x suf).Perm (pre.reverse ++ x :: suf)
  | [], x, suf => by simp [bubL]
  | y :: pre, x, suf => by
    unfold bubL
    split
    · refine (bub_perm pre x (y :: suf)).trans ?_
      rw [List.reverse_cons, List.append_assoc]
      exact List.Perm.append_left _ (List.Perm.swap y x suf)
    · refine (bub_perm pre y (x :: suf)).trans ?_
      rw [List.reverse_cons, List.append_assoc]
      exact List.Perm.refl _
theorem le_trans_cf {a b c : ByteArray} (h1 : cfT a b ≤ 0) (h2 : cfT b c ≤ 0) : cfT a c ≤ 0 := (cmpV_trans _ _ _ _ _ _).1 h1 h2
theorem bub_sorted : ∀ (pre : List ByteArray) (x : ByteArray) (suf : List ByteArray), (pre.reverse ++ suf).Pairwise (fun a b => cfT a b ≤ 0) → (∀ q ∈ suf, cfT x q ≤ 0) → (bubL pre x suf).Pairwise (fun a b => cfT a b ≤ 0)
  | [], x, suf, h1, h2 => by
    unfold bubL
    exact List.pairwise_cons.2 ⟨h2, by simpa using h1⟩
  | y :: pre, x, suf, h1, h2 => by
    rw [List.reverse_cons, List.append_assoc] at h1
    have h1' : (pre.reverse ++ y :: suf).Pairwise (fun a b => cfT a b ≤ 0) := h1
    unfold bubL
    split
    · rename_i hc
      exact bub_sorted pre x (y :: suf) h1' (fun q hq => by
        rcases List.mem_cons.1 hq with rfl | hq
        · omega
        · exact h2 q hq)
    · rename_i hc
      have hyx : cfT y x ≤ 0 := by have := cfT_neg x y; omega
      obtain ⟨p1, p2, p3⟩ := List.pairwise_append.1 h1'
      obtain ⟨p4, p5⟩ := List.pairwise_cons.1 p2
      refine bub_sorted pre y (x :: suf) (List.pairwise_append.2 ⟨p1, List.pairwise_cons.2 ⟨h2, p5⟩, fun a ha b hb => ?_⟩) (fun q hq => ?_)
      · rcases List.mem_cons.1 hb with rfl | hb
        · exact le_trans_cf (p3 a ha y (List.mem_cons_self ..)) hyx
        · exact p3 a ha b (List.mem_cons_of_mem _ hb)
      · rcases List.mem_cons.1 hq with rfl | hq
        · exact hyx
        · exact p4 q hq
theorem textsV_ok {s t : ByteArray} (hs : okT s = true) (ht : okT t = true) : textsV s t = (cfT s t, true) := by
  obtain ⟨x, hx⟩ := Option.isSome_iff_exists.1 hs
  obtain ⟨y, hy⟩ := Option.isSome_iff_exists.1 ht
  unfold textsV
  rw [if_pos (by rw [hx]; rfl), if_pos (by rw [hy]; rfl)]
theorem sort_l1 (l : List ByteArray) (i : Nat) (R : List ByteArray × Int) : ∀ (pre : List ByteArray) (x : ByteArray) (suf : List ByteArray), pre.length ≤ 1000 → (∀ s ∈ pre.reverse ++ x :: suf, okT s = true ∧ s.size ≤ 60) →
    (Ev (fun k => tithebarnref13_Sort.l0 k l (bubL pre x suf) (wrap64 ((i : Int) + 1))) R) → Ev (fun k => tithebarnref13_Sort.l1 k l (pre.reverse ++ x :: suf) (i : Int) (pre.length : Int)) R
  | [], x, suf, hp, hok, hR => by
    refine Ev.step (fun k => ?_) hR
    simp only [tithebarnref13_Sort.l1]
    rw [if_neg (by simp)]
    rfl
  | y :: pre, x, suf, hp, hok, hR => by
    have hlist : (y :: pre).reverse ++ x :: suf = pre.reverse ++ y :: x :: suf := by rw [List.reverse_cons, List.append_assoc]; rfl
    rw [hlist] at hok ⊢
    have hlen : (pre.reverse ++ y :: x :: suf).length = pre.length + 2 + suf.length := by simp; omega
    have gx : (pre.reverse ++ y :: x :: suf).getD (pre.length + 1) ByteArray.empty = x := by
      rw [List.getD_eq_getElem?_getD, List.getElem?_append_right (by simp)]
      simp
    have gy : (pre.reverse ++ y :: x :: suf).getD pre.length ByteArray.empty = y := by
      rw [List.getD_eq_getElem?_getD, List.getElem?_append_right (by simp)]
      simp
    have hset : ((pre.reverse ++ y :: x :: suf).set (pre.length + 1) y).set pre.length x = pre.reverse ++ x :: y :: suf := by
      rw [List.set_append_right _ _ (by simp), List.set_append_right _ _ (by simp)]
      simp
    have kx := hok x (by simp)
    have ky := hok y (by simp)
    simp only [List.length_cons] at hp
    have ew : wrap64 (((pre.length + 1 : Nat) : Int) - 1) = (pre.length : Int) := by rw [wrap_id (by omega) (by omega)]; omega
    have et := textsV_ok kx.1 ky.1
    refine Ev.step (f := fun k => (tithebarnref13_Texts.f k x y).bind fun bt207 => (if bt207.1 < 0 then (tithebarnref13_Sort.l1 k l (pre.reverse ++ x :: y :: suf) (i : Int) (pre.length : Int)) else (tithebarnref13_Sort.l1 k l (pre.reverse ++ y :: x :: suf) (i : Int) (pre.length : Int)))) (fun k => ?_) (Ev.bind (texts_ev x y (by omega) (by omega)) ?_)
    · simp only [tithebarnref13_Sort.l1, List.length_cons]
      rw [if_pos (by omega), if_pos (by omega), if_pos (by omega), ew, if_pos (by omega), if_pos (by omega), rdS_nat, rdS_nat, gx, gy]
      have e1 : (((pre.length + 1 : Nat) : Int)).toNat = pre.length + 1 := by omega
      have e2 : ((pre.length : Nat) : Int).toNat = pre.length := by omega
      rw [e1, e2, hset]
    · rw [et]
      unfold bubL at hR
      by_cases hc : cfT x y < 0
      · rw [if_pos hc] at hR
        exact Ev.ite_pos hc (sort_l1 l i R pre x (y :: suf) (by omega) (fun s hs => hok s (by simp only [List.mem_append, List.mem_cons] at hs ⊢; rcases hs with h | h | h | h <;> simp [h])) hR)
      · rw [if_neg hc] at hR
        exact Ev.ite_neg hc (sort_l1 l i R pre y (x :: suf) (by omega) hok hR)
theorem sortT_unique (l out : List ByteArray) (hp : out.Perm l) (hs : out.Pairwise (fun a b => cfT a b ≤ 0)) (hok : ∀ s ∈ l, okT s = true) : out = sortT l := by
  have h1 : (sortT l).Perm l := List.mergeSort_perm _ _
  have h2 : (sortT l).Pairwise (fun a b => cfT a b ≤ 0) := by
    have := List.pairwise_mergeSort (le := fun x y => decide (cfT x y ≤ 0)) (fun a b c h1 h2 => by simp only [decide_eq_true_eq] at *; exact le_trans_cf h1 h2) (fun a b => by have := cfT_neg a b; simp only [Bool.or_eq_true, decide_eq_true_eq]; omega) l
    exact this.imp (fun h => by simpa using h)
  refine List.Perm.eq_of_pairwise (le := fun a b => cfT a b ≤ 0) ?_ hs h2 (hp.trans h1.symm)
  intro a b ha hb hab hba
  have := cfT_neg a b
  exact cfT_zero (hok a (hp.mem_iff.1 ha)) (hok b (h1.mem_iff.1 hb)) (by omega)
theorem sort_l0 (l : List ByteArray) (hl : l.length ≤ 60) (hz : ∀ s ∈ l, s.size ≤ 60) : ∀ (d i : Nat) (out : List ByteArray), i + d = l.length → out.Perm (l.take i) → out.Pairwise (fun a b => cfT a b ≤ 0) → (l.take i).all okT = true →
    Ev (fun k => tithebarnref13_Sort.l0 k l out (i : Int)) (if l.all okT then (sortT l, 0) else ([], 130)) := by
  intro d
  induction d with
  | zero =>
    intro i out hi hp hs hok
    rw [List.take_of_length_le (by omega)] at hp hok
    rw [hok, if_pos rfl, ← sortT_unique l out hp hs (fun s h => List.all_eq_true.1 hok s h)]
    refine Ev.step (f := fun _ => some (out, 0)) (fun k => ?_) (Ev.now _)
    simp only [tithebarnref13_Sort.l0]
    rw [if_neg (by omega)]
  | succ d ih =>
    intro i out hi hp hs hok
    have hil : i < l.length := by omega
    have hg : l.getD i ByteArray.empty = l[i] := by simp [hil]
    have hmem : l[i] ∈ l := List.getElem_mem hil
    have htk : l.take (i + 1) = l.take i ++ [l[i]] := take_snoc l i hil
    have hol : out.length = i := by rw [hp.length_eq, List.length_take]; omega
    have hsz := hz _ hmem
    have hcont : ∀ k, tithebarnref13_Sort.l0 (k + 1) l out (i : Int) = (tithebarnref13_Parse.f k l[i]).bind fun bt195 => (if bt195.2.2 = 0 then (tithebarnref13_Sort.l1 k l (out ++ [l[i]]) (i : Int) ((out.reverse).length : Int)) else (some (([] : List ByteArray), bt195.2.2))) := by
      intro k
      simp only [tithebarnref13_Sort.l0]
      rw [if_pos (by omega), if_pos (by omega), rdS_nat, hg]
      congr 1
      funext q
      split
      · rw [if_pos (by omega)]
        simp only [Option.bind_some]
        congr 1
        rw [List.length_append, wrap_id (by simp only [List.length_singleton]; omega) (by simp only [List.length_singleton]; omega)]
        simp
      · rfl
    refine Ev.step hcont (Ev.bind (parse_ev l[i] (by omega)) ?_)
    by_cases hk : okT l[i] = true
    · obtain ⟨x, hx⟩ := Option.isSome_iff_exists.1 hk
      have he : (tripleV l[i]).2.2 = 0 := by unfold tripleV; rw [hx]; rfl
      refine Ev.ite_pos he ?_
      have hbp := bub_perm out.reverse l[i] []
      rw [List.reverse_reverse] at hbp
      have hbs := bub_sorted out.reverse l[i] [] (by rw [List.reverse_reverse, List.append_nil]; exact hs) (by simp)
      have h1 := ih (i + 1) (bubL out.reverse l[i] []) (by omega) (by rw [htk]; exact hbp.trans (List.Perm.append_right _ hp)) hbs (by rw [htk, List.all_append, hok]; simp [hk])
      have h2 := sort_l1 l i (if l.all okT then (sortT l, 0) else ([], 130)) out.reverse l[i] [] (by simp; omega) (fun s hs' => by
        rw [List.reverse_reverse] at hs'
        rcases List.mem_append.1 hs' with h | h
        · have h3 := hp.mem_iff.1 h
          exact ⟨List.all_eq_true.1 hok s h3, hz s (List.mem_of_mem_take h3)⟩
        · rw [List.mem_singleton.1 h]; exact ⟨hk, hsz⟩) (by rw [wrap_id (by omega) (by omega)]; exact h1)
      rw [List.reverse_reverse] at h2
      exact h2
    · have hne : parseV l[i].data.toList = none := by
        unfold okT at hk
        cases h : parseV l[i].data.toList with
        | none => rfl
        | some x => rw [h] at hk; exact absurd rfl hk
      have he : (tripleV l[i]).2.2 = 130 := by unfold tripleV; rw [hne]; rfl
      have hall : l.all okT = false := by
        rw [Bool.eq_false_iff]
        intro h
        exact hk (List.all_eq_true.1 h _ hmem)
      refine Ev.ite_neg (by rw [he]; decide) ?_
      rw [hall, he]
      exact Ev.now _
theorem sort_ev (l : List ByteArray) (hl : l.length ≤ 60) (hz : ∀ s ∈ l, s.size ≤ 60) : Ev (fun k => tithebarnref13_Sort.f k l) (if l.all okT then (sortT l, 0) else ([], 130)) := sort_l0 l hl hz l.length 0 [] (by omega) (by simp) (by simp) (by simp)
theorem sort_mark (l own : List ByteArray) (hl : l.length ≤ 1000) (ho : own = l) : ∀ (d i : Nat) (a : List ByteArray), i + d = a.length → a.length ≤ 1000 → Ev (fun k => tithebarnlaw13_VersionSort.l1 k l own a (i : Int)) true := by
  intro d
  induction d with
  | zero =>
    intro i a hi ha
    refine Ev.step (f := fun k => (tithebarnkit_SameTexts.f k own l).bind fun t231 => (if t231 = true then (some true) else (some false))) (fun k => ?_) (Ev.bind (sameS_ev own l (by rw [ho]; omega)) (Ev.ite_pos (by simpa using ho) (Ev.now _)))
    simp only [tithebarnlaw13_VersionSort.l1]
    rw [if_neg (by omega)]
    rfl
  | succ d ih =>
    intro i a hi ha
    refine Ev.step (fun k => ?_) (ih (i + 1) (a.set i (⟨#[63]⟩ : ByteArray)) (by simp; omega) (by simp; omega))
    simp only [tithebarnlaw13_VersionSort.l1]
    rw [if_pos (by omega), if_pos (by omega), wrap_id (by omega) (by omega)]
    rfl
theorem sort_guard (l : List ByteArray) (hl : l.length ≤ 60) : ∀ (d i : Nat), i + d = l.length → (∀ j, j < i → (l.getD j ByteArray.empty).size ≤ 60) → Ev (fun k => tithebarnlaw13_VersionSort.l0 k l (i : Int)) true := by
  intro d
  induction d with
  | zero =>
    intro i hi hz
    have hz' : ∀ s ∈ l, s.size ≤ 60 := by
      intro s hs
      obtain ⟨j, hj, rfl⟩ := List.getElem_of_mem hs
      have := hz j (by omega)
      simpa [hj] using this
    have hsf : version_Sort.f l = some (if l.all okT then (sortT l, 0) else ([], 130)) := by
      unfold version_Sort.f
      rw [if_pos ⟨by omega, fun s hs => by have := hz' s hs; omega⟩]
    have hlen : (if l.all okT then (sortT l, 0) else (([], 130) : List ByteArray × Int)).1.length ≤ 60 := by
      split
      · unfold sortT; rw [List.length_mergeSort]; exact hl
      · simp
    generalize (if l.all okT then (sortT l, 0) else (([], 130) : List ByteArray × Int)) = r at *
    have hse : Ev (fun k => tithebarnref13_Sort.f k l) r := by
      have h1 := sort_ev l hl hz'
      unfold version_Sort.f at hsf
      rw [if_pos ⟨by omega, fun s hs => by have := hz' s hs; omega⟩] at hsf
      rw [Option.some.inj hsf] at h1
      exact h1
    refine Ev.step (f := fun k => (tithebarnref13_Sort.f k l).bind fun bt225 => (if r.2 = bt225.2 then ((tithebarnkit_SameTexts.f k r.1 bt225.1).bind fun t229 => (tithebarnlaw13_VersionSort.j1 k l l r.1 (!t229))) else (tithebarnlaw13_VersionSort.j1 k l l r.1 true))) (fun k => ?_) (Ev.bind hse (Ev.ite_pos rfl (Ev.bind (sameS_ev _ _ (by omega)) ?_)))
    · simp only [tithebarnlaw13_VersionSort.l0]
      rw [if_neg (by omega), if_pos (by simp; omega)]
      simp only [List.nil_append, Option.bind_some]
      rw [hsf, Option.bind_some]
    · rw [decide_eq_true rfl]
      refine Ev.step (f := fun k => tithebarnlaw13_VersionSort.l1 k l l r.1 ((0 : Nat) : Int)) (fun k => ?_) (sort_mark l l (by omega) rfl r.1.length 0 r.1 (by omega) (by omega))
      simp only [tithebarnlaw13_VersionSort.j1]
      rfl
  | succ d ih =>
    intro i hi hz
    by_cases h : (l.getD i ByteArray.empty).size ≤ 60
    · refine Ev.step (fun k => ?_) (ih (i + 1) (by omega) (fun j hj => by
        by_cases e : j = i
        · rw [e]; exact h
        · exact hz j (by omega)))
      simp only [tithebarnlaw13_VersionSort.l0]
      rw [if_pos (by omega), if_pos (by omega), rdS_nat, if_neg (by omega), wrap_id (by omega) (by omega)]
      rfl
    · refine Ev.step (f := fun _ => some true) (fun k => ?_) (Ev.now _)
      simp only [tithebarnlaw13_VersionSort.l0]
      rw [if_pos (by omega), if_pos (by omega), rdS_nat, if_pos (by omega)]
      rfl
theorem pure_VersionSort : ∀ (l0 : (List ByteArray)), (l0.length ≤ maxLen ∧ ∀ y0 ∈ l0, y0.size ≤ maxLen) → ∃ k, PVer.tithebarnlaw13_VersionSort.f k l0 = some true := by
  intro l _
  refine Ev.rounds (g := fun k => tithebarnlaw13_VersionSort.f k l) ?_
  unfold tithebarnlaw13_VersionSort.f
  by_cases h : (l.length : Int) > 60
  · exact Ev.ite_pos h (Ev.const rfl)
  · exact Ev.ite_neg h (sort_guard l (by omega) l.length 0 (by omega) (fun j hj => absurd hj (Nat.not_lt_zero _)))
end Go.Proofs.YtnbmdecehlljcaaDoor
