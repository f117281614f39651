/- What the variables and tables hold that the code reads. A run of an operation draws on, never back. No program. Plain laws on texts: tags, cutting and splitting at one byte, canonical numerals. No program. Plain laws on versions: the text of a version, there and back; the order. No program. What the functions of the package version answer, in plain words. No program. strconv.ParseUint(s, 10, 31) and strconv.FormatUint(n, 10): what each answers, of every text and number. version.tag, and the library's functions at the program's own numbers. version.Parse: what it answers, of every text. The library's functions at the program's own arguments: nothing is drawn back. version.Parse: the parts. version.Parse: no tag. version.Parse: with a tag. version.Parse: what it answers of every text; in the print's own form. version.Parse of what is a version: nothing is drawn back. The callees of version.Print in the print's own form: version.tag, strconv.Itoa, strings.Join. -/
import Derived.Test.YtnbmdecehlljcaaGreatDoorWMore
import Derived.Lib.Strings
import Derived.Lib.Walk
import Derived.Lib.AppendIntMem
import Derived.Lib.AtoiErrMem
import Derived.Test.YtnbmdecehlljcaaGreatDoorProg
import Derived.Laws.AppendOwn
import Derived.WalkKit
import Derived.Lib.SplitLaws
import Derived.Lib.SpaceUEq
import Derived.Lib.ItoaMem
import Derived.Lib.ParseIntBMem
import Derived.Lib.IndexBytes
import Derived.Shelf.GgClosure.StringsIndexFunc
import Derived.Test.YtnbmdecehlljcaaGreatDoorShelf
import Derived.Lib.ConvBytes
import Derived.Lib.Hide
import Derived.Laws.Strings3
import Derived.Laws.Closers25
import Derived.Laws.Closers25b
import Derived.BigCall
import Derived.BigGuard
import Derived.Lib.QuietBelow
namespace Go.Proofs.YtnbmdecehlljcaaGreatDoor
open Go.RowKit Go.Proofs.YtnbmdecehlljcaaGreatDoorW.PrintWords Go.Proofs.YtnbmdecehlljcaaGreatDoorW.PrintMore
/-- A store leaves every cell that was there (for the walk's simp: several stores to one cell). -/
theorem isSome_setCellV (w : World) (a b : Addr) (v : Value) : ((w.setCell a v).cell? b).isSome = (w.cell? b).isSome := by
  simp only [World.setCell, World.cell?, Array.getElem?_modify]
  by_cases hb : a.block = b.block
  · simp only [hb, if_true]
    cases hh : w.heap[b.block]? with
    | none => simp
    | some x =>
      cases x <;> simp
      cases b.spot with
      | some _ => simp
      | none =>
        cases a.spot with
        | some _ => simp
        | none =>
          simp
          rw [Bool.eq_iff_iff]
          simp
  · simp [hb]
/-- What the errors' variables hold. -/
def ErrCell (W : World) (g : Nat) : Prop := ∃ ev : Value, W.cell? ⟨g, 0, none⟩ = some ev ∧ (ev = .nilIface ∨ ∃ te pe, ev = .iface te pe)
theorem ErrCell.below {W W' : World} {g : Nat} (h : ErrCell W g) (hb : Below W.heap.size W W') : ErrCell W' g := by
  obtain ⟨ev, h1, h2⟩ := h
  exact ⟨ev, (hb.cell (show (⟨g, 0, none⟩ : Addr).block < W.heap.size from Lib.lt_of_cell h1)).trans h1, h2⟩
/-- What the tables and variables hold that the library reads. -/
structure VTabs (W : World) : Prop where
  ml : ∃ m : Int, W.cell? ⟨2, 0, none⟩ = some (.int .i64 m)
  es : ErrCell W 3
  er : ErrCell W 4
  p10 : Lib.TabIs Tryz.prog W "internal/strconv.uint64pow10" .u64 Lib.pow10Tab
theorem VTabs.below {W W' : World} (h : VTabs W) (hb : Below W.heap.size W W') : VTabs W' := by
  obtain ⟨m, hm⟩ := h.ml
  exact ⟨⟨m, pw_cell_below hb hm⟩, h.es.below hb, h.er.below hb, Lib.tabBelow_of_tabIs h.p10 W' hb⟩
end Go.Proofs.YtnbmdecehlljcaaGreatDoor
namespace Go.Proofs.YtnbmdecehlljcaaGreatDoor
open Go.RowKit Go.Proofs.YtnbmdecehlljcaaGreatDoorW.PrintWords Go.Proofs.YtnbmdecehlljcaaGreatDoorW.PrintMore
set_option linter.unusedVariables false
set_option linter.unusedSimpArgs false
section
variable {P : Program} (w : World)
end
end Go.Proofs.YtnbmdecehlljcaaGreatDoor
namespace Go.Proofs.YtnbmdecehlljcaaGreatDoor
open Go.Lib
set_option linter.unusedVariables false
set_option linter.unusedSimpArgs false
def isTagB (b : UInt8) : Bool := (decide (97 ≤ b.toNat) && decide (b.toNat ≤ 122)) || (decide (48 ≤ b.toNat) && decide (b.toNat ≤ 57))
def badRune (x : Nat) : Bool := (decide (x < 97) || decide (122 < x)) && (decide (x < 48) || decide (57 < x))
theorem badRune_byte (b : UInt8) : badRune b.toNat = !isTagB b := by
  unfold badRune isTagB
  rw [Bool.eq_iff_iff]
  simp <;> omega
theorem badRune_high (x : Nat) (h : 128 ≤ x) : badRune x = true := by
  unfold badRune
  simp
  omega
theorem decodeN_high (n b0 b1 b2 b3 : Nat) (h : 128 ≤ b0) : 128 ≤ (decodeN n b0 b1 b2 b3).1 := by
  rcases decodeN_cases n b0 b1 b2 b3 with ⟨c, e⟩ | ⟨c1, c2, c3, cv, e⟩ | ⟨c1, c2, c3, c4, cv, e⟩ | ⟨c, e⟩ | e
  · omega
  · rw [e]; exact cv
  · rw [e]; show 128 ≤ _; omega
  · omega
  · rw [e]; show 128 ≤ 65533; omega
theorem idxFrom_bad (s : ByteArray) : ∀ (f pos : Nat), s.size ≤ pos + f → decide (0 ≤ idxFuncFrom badRune true s f pos) = (s.data.toList.drop pos).any (fun b => !isTagB b)
  | 0, pos, h => by
    have hl : s.data.toList.length = s.size := (size_eq s).symm
    rw [List.drop_eq_nil_of_le (by omega)]
    rfl
  | f + 1, pos, h => by
    have hl : s.data.toList.length = s.size := (size_eq s).symm
    by_cases hp : pos < s.size
    · have hd : s.data.toList.drop pos = s.data.toList[pos]'(by omega) :: s.data.toList.drop (pos + 1) := List.drop_eq_getElem_cons (by omega)
      have hg : s.data.toList.getD pos 0 = s.data.toList[pos]'(by omega) := by simp [List.getD, List.getElem?_eq_getElem (show pos < s.data.toList.length by omega)]
      have hN := decode_N s pos
      rw [hg] at hN
      rw [hd, List.any_cons]
      generalize s.data.toList[pos]'(by omega) = b at *
      unfold idxFuncFrom
      rw [if_pos hp]
      by_cases hb : b.toNat < 128
      · rw [decodeN_ascii _ _ _ _ _ hb] at hN
        rw [hN]
        dsimp only
        rw [badRune_byte]
        cases hc : isTagB b with
        | false => simp
        | true =>
          simp only [Bool.not_true, Bool.false_eq_true, if_false, Bool.false_or]
          exact idxFrom_bad s f (pos + 1) (by omega)
      · have h1 := decodeN_high (s.data.toList.length - pos) b.toNat (s.data.toList.getD (pos + 1) 0).toNat (s.data.toList.getD (pos + 2) 0).toNat (s.data.toList.getD (pos + 3) 0).toNat (by omega)
        rw [← hN] at h1
        rw [if_pos (badRune_high _ h1)]
        have h2 := badRune_high b.toNat (by omega)
        rw [badRune_byte] at h2
        rw [h2]
        simp
    · rw [idxFuncFrom_end _ _ _ _ _ hp, List.drop_eq_nil_of_le (by omega)]
      rfl
theorem contains_bad (s : ByteArray) : decide (0 ≤ idxFunc badRune true s) = !(s.data.toList.all isTagB) := by
  have h := idxFrom_bad s s.size 0 (by omega)
  unfold idxFunc
  rw [h, List.drop_zero, List.not_all_eq_any_not]
def tagB (l : List UInt8) : Bool := decide (l.length ≤ 16) && l.all isTagB
/-- A text cut at the first byte c. -/
def cutOn (c : UInt8) : List UInt8 → List UInt8 × List UInt8 × Bool
  | [] => ([], [], false)
  | b :: t => if b = c then ([], t, true) else (b :: (cutOn c t).1, (cutOn c t).2)
theorem index_cons (b c : UInt8) (l : List UInt8) : index (b :: l) [c] = if b = c then 0 else if index l [c] = -1 then -1 else index l [c] + 1 := by
  rw [index]
  by_cases h : b = c
  · subst h; simp [List.isPrefixOf]
  · rw [if_neg (by simp [List.isPrefixOf, Ne.symm h]), if_neg h]
    by_cases h2 : index l [c] = -1
    · rw [if_pos (beq_iff_eq.2 h2), if_pos h2]
    · rw [if_neg (fun e => h2 (beq_iff_eq.1 e)), if_neg h2]
theorem cut_one (c : UInt8) : ∀ l : List UInt8, cut l [c] = cutOn c l
  | [] => by simp [cut, index, cutOn]
  | b :: t => by
    have ih := cut_one c t
    have hge := index_ge t [c]
    unfold cut at ih ⊢
    rw [index_cons, cutOn, ← ih]
    by_cases h : b = c
    · rw [if_pos h, if_pos h, if_pos (by omega)]
      simp
    · rw [if_neg h, if_neg h]
      by_cases h2 : index t [c] = -1
      · rw [if_pos h2, if_neg (by omega), if_neg (by omega)]
      · rw [if_neg h2, if_pos (by omega), if_pos (by omega)]
        have e : (index t [c] + 1).toNat = (index t [c]).toNat + 1 := by omega
        have e2 : (index t [c] + 1).toNat + [c].length = ((index t [c]).toNat + [c].length) + 1 := by omega
        rw [e2, e]
        simp
theorem cutOn_len (c : UInt8) : ∀ l : List UInt8, (cutOn c l).1.length ≤ l.length ∧ (cutOn c l).2.1.length ≤ l.length
  | [] => by simp [cutOn]
  | b :: t => by
    have ih := cutOn_len c t
    unfold cutOn
    split
    · simp
    · simp
      omega
/-- A text split at every byte c. -/
def splitOn (c : UInt8) : List UInt8 → List (List UInt8)
  | [] => [[]]
  | b :: t => if b = c then [] :: splitOn c t else match splitOn c t with | h :: r => (b :: h) :: r | [] => [[b]]
theorem splitOn_ne (c : UInt8) (l : List UInt8) : splitOn c l ≠ [] := by
  cases l with
  | nil => simp [splitOn]
  | cons b t =>
    unfold splitOn
    split
    · simp
    · split <;> simp
theorem splitK_one (c : UInt8) : ∀ l : List UInt8, splitK [c] 0 (l.count c) l = splitOn c l
  | [] => rfl
  | b :: t => by
    have ih := splitK_one c t
    have hge := index_ge t [c]
    by_cases h : b = c
    · subst h
      rw [List.count_cons_self, splitOn, if_pos rfl, ← ih]
      rw [splitK, index_cons, if_pos rfl, if_neg (by decide)]
      simp
    · rw [List.count_cons_of_ne (by simpa using h), splitOn, if_neg h, ← ih]
      cases hk : t.count c with
      | zero => rfl
      | succ k =>
        have h2 : index t [c] ≠ -1 := by
          intro e
          have := count_miss (s := t) (sub := [c]) e
          rw [count_one] at this
          omega
        rw [splitK, splitK, index_cons, if_neg h, if_neg h2, if_neg (fun e => h2 (beq_iff_eq.1 e)), if_neg (fun e => by have := beq_iff_eq.1 e; omega)]
        have e : (index t [c] + 1).toNat = (index t [c]).toNat + 1 := by omega
        have e2 : (index t [c] + 1).toNat + [c].length = ((index t [c]).toNat + [c].length) + 1 := by omega
        rw [e2, e]
        simp
theorem head_app {α : Type} (q r : List α) (h : q ≠ []) : (q ++ r).head? = q.head? := by
  cases q with
  | nil => exact absurd rfl h
  | cons a t => rfl
/-! ### Canonical numerals -/
def isDig (b : UInt8) : Bool := decide (48 ≤ b.toNat) && decide (b.toNat ≤ 57)
def valF (acc : Nat) (l : List UInt8) : Nat := l.foldl (fun a b => a * 10 + (b.toNat - 48)) acc
/-- A numeral of a version: at most nine digits, no needless 0 ahead. -/
def canonB (p : List UInt8) : Bool := p.all isDig && decide (1 ≤ p.length) && decide (p.length ≤ 9) && (p == [48] || p.head? != some 48)
theorem valF_cons (acc : Nat) (b : UInt8) (l : List UInt8) : valF acc (b :: l) = valF (acc * 10 + (b.toNat - 48)) l := by unfold valF; rw [List.foldl_cons]
theorem valF_snoc (acc : Nat) (b : UInt8) (l : List UInt8) : valF acc (l ++ [b]) = valF acc l * 10 + (b.toNat - 48) := by simp [valF]
theorem valF_lt (l : List UInt8) : ∀ (acc : Nat), l.all isDig = true → valF acc l < (acc + 1) * 10 ^ l.length := by
  induction l with
  | nil => intro acc _; simp [valF]
  | cons b t ih =>
    intro acc h
    simp only [List.all_cons, Bool.and_eq_true] at h
    have h1 := ih (acc * 10 + (b.toNat - 48)) h.2
    have h2 : b.toNat ≤ 57 := by have := h.1; unfold isDig at this; simp at this; omega
    rw [valF_cons, List.length_cons]
    have h3 : acc * 10 + (b.toNat - 48) + 1 ≤ (acc + 1) * 10 := by omega
    have h4 : (acc * 10 + (b.toNat - 48) + 1) * 10 ^ t.length ≤ ((acc + 1) * 10) * 10 ^ t.length := Nat.mul_le_mul_right _ h3
    have h5 : ((acc + 1) * 10) * 10 ^ t.length = (acc + 1) * 10 ^ (t.length + 1) := by rw [Nat.pow_succ, Nat.mul_assoc, Nat.mul_comm 10]
    omega
theorem valF_ge : ∀ (l : List UInt8) (acc : Nat), acc ≤ valF acc l
  | [], acc => Nat.le_refl _
  | b :: t, acc => by
    rw [valF_cons]
    have := valF_ge t (acc * 10 + (b.toNat - 48))
    omega
theorem parseM_digits (M : Nat) (hM : M < 18446744073709551610) (l : List UInt8) : ∀ (acc : Nat), l.all isDig = true → acc ≤ M → parseUintM M acc l = if valF acc l ≤ M then .ok (valF acc l) else .range := by
  induction l with
  | nil => intro acc _ ha; simp [parseUintM, valF, ha]
  | cons b t ih =>
    intro acc h ha
    simp only [List.all_cons, Bool.and_eq_true] at h
    have h2 : 48 ≤ b.toNat ∧ b.toNat ≤ 57 := by have := h.1; unfold isDig at this; simpa using this
    have hge := valF_ge t (acc * 10 + (b.toNat - 48))
    rw [parseUintM, if_pos h2, valF_cons]
    by_cases c1 : 1844674407370955162 ≤ acc
    · rw [if_pos c1, if_neg (by omega)]
    · rw [if_neg c1]
      by_cases c2 : M < acc * 10 + (b.toNat - 48)
      · rw [if_pos c2, if_neg (by omega)]
      · rw [if_neg c2]
        exact ih _ h.2 (by omega)
theorem dig_of (b : UInt8) (h : isDig b = true) : UInt8.ofNat (48 + (b.toNat - 48)) = b := by
  unfold isDig at h
  simp at h
  have e : 48 + (b.toNat - 48) = b.toNat := by omega
  rw [e]
  simp
theorem decDigits_val : ∀ (n : Nat) (p : List UInt8), p.length = n + 1 → p.all isDig = true → (p = [48] ∨ p.head? ≠ some 48) → decDigits (valF 0 p) = p ∧ (p = [48] ∨ 1 ≤ valF 0 p)
  | 0, p, hl, hd, hh => by
    match p, hl with
    | [b], _ =>
      simp only [List.all_cons, List.all_nil, Bool.and_true] at hd
      have h2 : 48 ≤ b.toNat ∧ b.toNat ≤ 57 := by have := hd; unfold isDig at this; simpa using this
      have e : valF 0 [b] = b.toNat - 48 := by simp [valF]
      rw [e, decDigits_one (by omega), dig_of b hd]
      refine ⟨rfl, ?_⟩
      rcases hh with h | h
      · exact Or.inl h
      · right
        have : b.toNat ≠ 48 := by
          intro e
          apply h
          have : b = 48 := UInt8.toNat_inj.1 (by rw [e]; rfl)
          simp [this]
        omega
  | n + 1, p, hl, hd, hh => by
    obtain ⟨q, b, rfl⟩ : ∃ q b, p = q ++ [b] := ⟨p.dropLast, p.getLast (by intro e; rw [e] at hl; simp at hl), (List.dropLast_concat_getLast _).symm⟩
    simp only [List.length_append, List.length_cons, List.length_nil] at hl
    simp only [List.all_append, List.all_cons, List.all_nil, Bool.and_true, Bool.and_eq_true] at hd
    have h2 : 48 ≤ b.toNat ∧ b.toNat ≤ 57 := by have := hd.2; unfold isDig at this; simpa using this
    have hq : q ≠ [] := by intro e; rw [e] at hl; simp at hl
    have hh' : q.head? ≠ some 48 := by
      rcases hh with h | h
      · have := congrArg List.length h
        simp at this
        exact absurd this hq
      · rwa [head_app _ _ hq] at h
    have ih := decDigits_val n q (by omega) hd.1 (Or.inr hh')
    have hv : 1 ≤ valF 0 q := by
      rcases ih.2 with h | h
      · rw [h] at hh'; simp at hh'
      · exact h
    rw [valF_snoc]
    have h10 : ¬ valF 0 q * 10 + (b.toNat - 48) < 10 := by omega
    have hdiv : (valF 0 q * 10 + (b.toNat - 48)) / 10 = valF 0 q := by omega
    have hmod : (valF 0 q * 10 + (b.toNat - 48)) % 10 = b.toNat - 48 := by omega
    rw [decDigits, dif_neg h10, hdiv, hmod, ih.1, dig_of b hd.2]
    exact ⟨rfl, Or.inr (by omega)⟩
theorem decDigits_canon (u : Nat) (hu : u < 1000000000) : canonB (decDigits u) = true ∧ valF 0 (decDigits u) = u := by
  have key : ∀ (k u : Nat), u < 10 ^ (k + 1) → (decDigits u).all isDig = true ∧ 1 ≤ (decDigits u).length ∧ (decDigits u).length ≤ k + 1 ∧ (u = 0 ∨ (decDigits u).head? ≠ some 48) ∧ valF 0 (decDigits u) = u := by
    intro k
    induction k with
    | zero =>
      intro u hu
      have h10 : u < 10 := by simpa using hu
      rw [decDigits_one h10]
      have e : (UInt8.ofNat (48 + u)).toNat = 48 + u := by simp; omega
      refine ⟨by simp [isDig]; omega, by simp, by simp, ?_, by simp only [valF, List.foldl]; rw [e]; omega⟩
      by_cases h0 : u = 0
      · exact Or.inl h0
      · right
        intro h
        have h' : UInt8.ofNat (48 + u) = 48 := Option.some.inj h
        have := congrArg UInt8.toNat h'
        rw [e] at this
        have e2 : (48 : UInt8).toNat = 48 := rfl
        omega
    | succ k ih =>
      intro u hu
      by_cases h10 : u < 10
      · have := ih u (Nat.lt_of_lt_of_le (show u < 10 ^ 1 by simpa using h10) (Nat.pow_le_pow_right (by omega) (by omega)))
        exact ⟨this.1, this.2.1, by omega, this.2.2.2⟩
      · have hd : u / 10 < 10 ^ (k + 1) := by
          rw [Nat.div_lt_iff_lt_mul (by omega)]
          rwa [Nat.pow_succ] at hu
        obtain ⟨i1, i2, i3, i4, i5⟩ := ih (u / 10) hd
        have hm : u % 10 < 10 := Nat.mod_lt _ (by omega)
        have e : (UInt8.ofNat (48 + u % 10)).toNat = 48 + u % 10 := by simp; omega
        rw [decDigits, dif_neg h10]
        have hne : decDigits (u / 10) ≠ [] := by intro e; rw [e] at i2; simp at i2
        refine ⟨by rw [List.all_append, i1]; simp [isDig]; omega, by simp, by simp; omega, Or.inr ?_, by rw [valF_snoc, i5, e]; omega⟩
        rw [head_app _ _ hne]
        rcases i4 with h | h
        · omega
        · exact h
  obtain ⟨k1, k2, k3, k4, k5⟩ := key 8 u hu
  refine ⟨?_, k5⟩
  unfold canonB
  rw [k1]
  simp only [Bool.true_and, Bool.and_eq_true, decide_eq_true_eq, Bool.or_eq_true, beq_iff_eq, bne_iff_ne]
  refine ⟨⟨k2, by omega⟩, ?_⟩
  rcases k4 with h | h
  · left; subst h; rw [decDigits_one (by omega)]; rfl
  · exact Or.inr h
/-- What the program makes of a part. -/
def progNum (p : List UInt8) : Option Nat := match parseUintB 31 p with
  | .ok u => if u ≤ 999999999 ∧ decDigits u = p then some u else none
  | _ => none
theorem progNum_eq (p : List UInt8) : progNum p = if canonB p = true then some (valF 0 p) else none := by
  by_cases hc : canonB p = true
  · rw [if_pos hc]
    unfold canonB at hc
    simp only [Bool.and_eq_true, decide_eq_true_eq, Bool.or_eq_true, beq_iff_eq, bne_iff_ne] at hc
    obtain ⟨⟨⟨h1, h2⟩, h3⟩, h4⟩ := hc
    have hlt := valF_lt p 0 h1
    have hpow : 10 ^ p.length ≤ 10 ^ 9 := Nat.pow_le_pow_right (by omega) h3
    have h9 : valF 0 p < 1000000000 := by omega
    have hne : p ≠ [] := by intro e; rw [e] at h2; simp at h2
    have hd := (decDigits_val (p.length - 1) p (by omega) h1 h4).1
    unfold progNum parseUintB
    rw [if_neg hne, parseM_digits _ (by decide) p 0 h1 (by omega), if_pos (by omega)]
    simp only
    rw [if_pos ⟨by omega, hd⟩]
  · rw [if_neg hc]
    unfold progNum
    split
    · rename_i u hu
      rw [if_neg]
      rintro ⟨h1, h2⟩
      apply hc
      rw [← h2]
      exact (decDigits_canon u (by omega)).1
    · rfl
end Go.Proofs.YtnbmdecehlljcaaGreatDoor
namespace Go.Proofs.YtnbmdecehlljcaaGreatDoor
open Go.Lib
set_option linter.unusedVariables false
set_option linter.unusedSimpArgs false
def partsNums : List (List UInt8) → Option (List Int)
  | [] => some []
  | p :: r => match progNum p with
    | none => none
    | some u => match partsNums r with
      | none => none
      | some l => some ((u : Int) :: l)
/-- A text as a version: its numbers, its tag. -/
def parseV (l : List UInt8) : Option (List Int × List UInt8) :=
  if ((cutOn 45 l).2.2 && (cutOn 45 l).2.1.isEmpty || !tagB (cutOn 45 l).2.1) = true then none
  else if 8 < (splitOn 46 (cutOn 45 l).1).length then none
  else match partsNums (splitOn 46 (cutOn 45 l).1) with
    | none => none
    | some ns => some (ns, (cutOn 45 l).2.1)
def numsOf (r : Option (List Int × List UInt8)) : List Int := match r with | none => [] | some x => x.1
def tagOf (r : Option (List Int × List UInt8)) : List UInt8 := match r with | none => [] | some x => x.2
def errOf (r : Option (List Int × List UInt8)) : Int := match r with | none => 130 | some _ => 0
def joinOn (c : UInt8) : List (List UInt8) → List UInt8
  | [] => []
  | [p] => p
  | p :: q :: r => p ++ c :: joinOn c (q :: r)
theorem join_splitOn (c : UInt8) : ∀ l : List UInt8, joinOn c (splitOn c l) = l
  | [] => rfl
  | b :: t => by
    have ih := join_splitOn c t
    have hne := splitOn_ne c t
    unfold splitOn
    by_cases h : b = c
    · rw [if_pos h]
      cases hs : splitOn c t with
      | nil => exact absurd hs hne
      | cons q r => rw [hs] at ih; simp [joinOn, ih, h]
    · rw [if_neg h]
      cases hs : splitOn c t with
      | nil => exact absurd hs hne
      | cons q r =>
        rw [hs] at ih
        cases r with
        | nil => simp only [joinOn] at ih ⊢; rw [ih]
        | cons q2 r2 => simp only [joinOn, List.cons_append] at ih ⊢; rw [ih]
theorem splitOn_none (c : UInt8) : ∀ p : List UInt8, c ∉ p → splitOn c p = [p]
  | [], _ => rfl
  | b :: t, h => by
    have ih := splitOn_none c t (fun e => h (List.mem_cons_of_mem _ e))
    unfold splitOn
    rw [if_neg (fun e => h (by rw [e]; exact List.mem_cons_self ..)), ih]
theorem splitOn_app (c : UInt8) : ∀ (p t : List UInt8), c ∉ p → splitOn c (p ++ c :: t) = p :: splitOn c t
  | [], t, _ => by
    show splitOn c (c :: t) = _
    conv => lhs; unfold splitOn
    rw [if_pos rfl]
  | b :: p, t, h => by
    have ih := splitOn_app c p t (fun e => h (List.mem_cons_of_mem _ e))
    show splitOn c (b :: (p ++ c :: t)) = _
    conv => lhs; unfold splitOn
    rw [if_neg (fun e => h (by rw [e]; exact List.mem_cons_self ..)), ih]
theorem splitOn_join (c : UInt8) : ∀ ps : List (List UInt8), ps ≠ [] → (∀ p ∈ ps, c ∉ p) → splitOn c (joinOn c ps) = ps
  | [], h, _ => absurd rfl h
  | [p], _, h => splitOn_none c p (h p (List.mem_cons_self ..))
  | p :: q :: r, _, h => by
    show splitOn c (p ++ c :: joinOn c (q :: r)) = _
    rw [splitOn_app c p _ (h p (List.mem_cons_self ..)), splitOn_join c (q :: r) (by simp) (fun x hx => h x (List.mem_cons_of_mem _ hx))]
theorem cutOn_none (c : UInt8) : ∀ p : List UInt8, c ∉ p → cutOn c p = (p, [], false)
  | [], _ => rfl
  | b :: t, h => by
    have ih := cutOn_none c t (fun e => h (List.mem_cons_of_mem _ e))
    unfold cutOn
    rw [if_neg (fun e => h (by rw [e]; exact List.mem_cons_self ..)), ih]
theorem cutOn_app (c : UInt8) : ∀ (p t : List UInt8), c ∉ p → cutOn c (p ++ c :: t) = (p, t, true)
  | [], t, _ => by
    show cutOn c (c :: t) = _
    conv => lhs; unfold cutOn
    rw [if_pos rfl]
  | b :: p, t, h => by
    have ih := cutOn_app c p t (fun e => h (List.mem_cons_of_mem _ e))
    show cutOn c (b :: (p ++ c :: t)) = _
    conv => lhs; unfold cutOn
    rw [if_neg (fun e => h (by rw [e]; exact List.mem_cons_self ..)), ih]
theorem cutOn_back (c : UInt8) : ∀ l : List UInt8, l = (cutOn c l).1 ++ (if (cutOn c l).2.2 = true then c :: (cutOn c l).2.1 else []) ∧ ((cutOn c l).2.2 = false → (cutOn c l).2.1 = [])
  | [] => by simp [cutOn]
  | b :: t => by
    have ih := cutOn_back c t
    unfold cutOn
    by_cases h : b = c
    · rw [if_pos h]; simp [h]
    · rw [if_neg h]
      refine ⟨?_, ih.2⟩
      show b :: t = b :: _
      congr 1
      exact ih.1
/-- A version may be printed. -/
def okV (ns : List Int) (t : List UInt8) : Bool := decide (1 ≤ ns.length) && decide (ns.length ≤ 8) && ns.all (fun n => decide (0 ≤ n) && decide (n ≤ 999999999)) && tagB t
def printV (ns : List Int) (t : List UInt8) : List UInt8 := joinOn 46 (ns.map fun n => decDigits n.toNat) ++ (if t = [] then [] else 45 :: t)
theorem progNum_some {p : List UInt8} {u : Nat} (h : progNum p = some u) : u ≤ 999999999 ∧ decDigits u = p := by
  unfold progNum at h
  split at h
  · rename_i v hv
    split at h
    · rename_i h2; cases h; exact h2
    · cases h
  · cases h
theorem progNum_dec (u : Nat) (h : u ≤ 999999999) : progNum (decDigits u) = some u := by
  have := decDigits_canon u (by omega)
  rw [progNum_eq, if_pos this.1, this.2]
theorem partsNums_some : ∀ {ps : List (List UInt8)} {ns : List Int}, partsNums ps = some ns → ps = ns.map (fun n => decDigits n.toNat) ∧ ns.length = ps.length ∧ (ns.all (fun n => decide (0 ≤ n) && decide (n ≤ 999999999))) = true
  | [], ns, h => by simp [partsNums] at h; subst h; exact ⟨rfl, rfl, rfl⟩
  | p :: r, ns, h => by
    unfold partsNums at h
    split at h
    · cases h
    · rename_i u hu
      split at h
      · cases h
      · rename_i l hl
        cases h
        have h1 := progNum_some hu
        have h2 := partsNums_some hl
        refine ⟨?_, by simp [h2.2.1], ?_⟩
        · rw [List.map_cons, ← h2.1]
          congr 1
          exact h1.2.symm
        · rw [List.all_cons, h2.2.2, Bool.and_true]
          simp
          omega
theorem partsNums_map : ∀ (ns : List Int), (ns.all (fun n => decide (0 ≤ n) && decide (n ≤ 999999999))) = true → partsNums (ns.map (fun n => decDigits n.toNat)) = some ns
  | [], _ => rfl
  | n :: r, h => by
    simp only [List.all_cons, Bool.and_eq_true, decide_eq_true_eq] at h
    have ih := partsNums_map r h.2
    rw [List.map_cons, partsNums, progNum_dec n.toNat (by omega), ih]
    simp only
    rw [Int.toNat_of_nonneg h.1.1]
theorem parseV_some {s : List UInt8} {ns : List Int} {t : List UInt8} (h : parseV s = some (ns, t)) : okV ns t = true ∧ printV ns t = s := by
  unfold parseV at h
  have hb := cutOn_back 45 s
  split at h
  · cases h
  · rename_i h1
    split at h
    · cases h
    · rename_i h2
      split at h
      · cases h
      · rename_i ns' hn
        cases h
        generalize cutOn 45 s = q at *
        obtain ⟨a, t, f⟩ := q
        simp only [Bool.or_eq_true, Bool.and_eq_true, not_or, Bool.not_eq_true'] at h1 hb hn h2 ⊢
        obtain ⟨h1a, h1b⟩ := h1
        have htag : tagB t = true := by simpa using h1b
        obtain ⟨p1, p2, p3⟩ := partsNums_some hn
        have hj := join_splitOn 46 a
        have hne := splitOn_ne 46 a
        refine ⟨?_, ?_⟩
        · unfold okV
          rw [p3, htag]
          have : 1 ≤ (splitOn 46 a).length := by
            rcases hq : splitOn 46 a with _ | ⟨x, y⟩
            · exact absurd hq hne
            · simp
          simp
          omega
        · unfold printV
          rw [← p1, hj]
          cases f with
          | true =>
            have : t ≠ [] := fun e => h1a ⟨rfl, by rw [e]; rfl⟩
            rw [if_neg this]
            simpa using hb.1.symm
          | false =>
            rw [if_pos (hb.2 rfl)]
            simpa using hb.1.symm
theorem dec_digits_no (c : UInt8) (hc : isDig c = false) (u : Nat) (h : u ≤ 999999999) : c ∉ decDigits u := by
  have h1 := (decDigits_canon u (by omega)).1
  unfold canonB at h1
  simp only [Bool.and_eq_true] at h1
  intro hm
  have := List.all_eq_true.1 h1.1.1.1 c hm
  rw [hc] at this
  cases this
theorem join_no (c d : UInt8) (hcd : c ≠ d) : ∀ ps : List (List UInt8), (∀ p ∈ ps, c ∉ p) → c ∉ joinOn d ps
  | [], _ => by simp [joinOn]
  | [p], h => h p (List.mem_cons_self ..)
  | p :: q :: r, h => by
    have ih := join_no c d hcd (q :: r) (fun x hx => h x (List.mem_cons_of_mem _ hx))
    have hp := h p (List.mem_cons_self ..)
    simp only [joinOn, List.mem_append, List.mem_cons, not_or]
    exact ⟨hp, hcd, ih⟩
theorem parseV_print {ns : List Int} {t : List UInt8} (h : okV ns t = true) : parseV (printV ns t) = some (ns, t) := by
  unfold okV at h
  simp only [Bool.and_eq_true, decide_eq_true_eq] at h
  obtain ⟨⟨⟨h1, h2⟩, h3⟩, h4⟩ := h
  have hall : ∀ n ∈ ns, 0 ≤ n ∧ n ≤ 999999999 := fun n hn => by
    have := List.all_eq_true.1 h3 n hn
    simpa using this
  have hno : ∀ c : UInt8, isDig c = false → ∀ p ∈ ns.map (fun n => decDigits n.toNat), c ∉ p := by
    intro c hc p hp
    obtain ⟨n, hn, rfl⟩ := List.mem_map.1 hp
    have := hall n hn
    exact dec_digits_no c hc _ (by omega)
  have hs := splitOn_join 46 (ns.map fun n => decDigits n.toNat) (by intro e; have := congrArg List.length e; simp at this; subst this; simp at h1) (hno 46 (by decide))
  have hc : cutOn 45 (printV ns t) = (joinOn 46 (ns.map fun n => decDigits n.toNat), t, decide (t ≠ [])) := by
    have hn := join_no 45 46 (by decide) _ (hno 45 (by decide))
    unfold printV
    by_cases ht : t = []
    · subst ht
      rw [if_pos rfl, List.append_nil, cutOn_none 45 _ hn]
      rfl
    · rw [if_neg ht, cutOn_app 45 _ _ hn, decide_eq_true ht]
  unfold parseV
  rw [hc]
  simp only
  rw [if_neg (by rw [h4]; cases t <;> simp), hs, if_neg (by simpa using h2), partsNums_map ns h3]
/-! ### The order -/
def cmpL : List Int → List Int → Int
  | [], [] => 0
  | [], _ :: _ => -1
  | _ :: _, [] => 1
  | x :: a, y :: b => if x < y then -1 else if y < x then 1 else cmpL a b
theorem cmpL_zero : ∀ a b, cmpL a b = 0 ↔ a = b
  | [], [] => by simp [cmpL]
  | [], _ :: _ => by simp [cmpL]
  | _ :: _, [] => by simp [cmpL]
  | x :: a, y :: b => by
    have ih := cmpL_zero a b
    unfold cmpL
    by_cases h1 : x < y
    · rw [if_pos h1]; simp; omega
    · by_cases h2 : y < x
      · rw [if_neg h1, if_pos h2]; simp; omega
      · rw [if_neg h1, if_neg h2, ih]
        have : x = y := by omega
        simp [this]
def noneT (t : List UInt8) : Int := if t = [] then 1 else 0
def cmpI (x y : Int) : Int := if x < y then -1 else if x > y then 1 else 0
def bytesI (t : List UInt8) : List Int := t.map fun b => (b.toNat : Int)
def cmpV (a : List Int) (s : List UInt8) (b : List Int) (t : List UInt8) : Int :=
  if cmpL a b ≠ 0 then cmpL a b else if cmpI (noneT s) (noneT t) ≠ 0 then cmpI (noneT s) (noneT t) else cmpL (bytesI s) (bytesI t)
/-- One list for all: the order of versions is the order of these. -/
def cmpV3 (a : List Int) (s : List UInt8) (b : List Int) (t : List UInt8) : Int :=
  if cmpL a b ≠ 0 then cmpL a b else cmpL (noneT s :: bytesI s) (noneT t :: bytesI t)
theorem cmpV_eq (a : List Int) (s : List UInt8) (b : List Int) (t : List UInt8) : cmpV a s b t = cmpV3 a s b t := by
  unfold cmpV cmpV3 cmpI
  by_cases h0 : cmpL a b ≠ 0
  · rw [if_pos h0, if_pos h0]
  · rw [if_neg h0, if_neg h0]
    conv => rhs; unfold cmpL
    by_cases h1 : noneT s < noneT t
    · simp [h1]
    · by_cases h2 : noneT s > noneT t
      · simp [h1, h2]
      · simp [h1, h2]
theorem bytesI_inj {s t : List UInt8} (h : bytesI s = bytesI t) : s = t := by
  induction s generalizing t with
  | nil => cases t with
    | nil => rfl
    | cons y t => simp [bytesI] at h
  | cons x s ih => cases t with
    | nil => simp [bytesI] at h
    | cons y t =>
      simp only [bytesI, List.map_cons, List.cons.injEq] at h
      have h1 : x = y := UInt8.toNat_inj.1 (by omega)
      rw [h1, ih h.2]
theorem cmpV_zero (a : List Int) (s : List UInt8) (b : List Int) (t : List UInt8) : cmpV a s b t = 0 ↔ a = b ∧ s = t := by
  rw [cmpV_eq]
  unfold cmpV3
  by_cases h0 : cmpL a b ≠ 0
  · rw [if_pos h0]
    exact ⟨fun h => absurd h h0, fun h => absurd ((cmpL_zero a b).2 h.1) h0⟩
  · rw [if_neg h0, cmpL_zero]
    have h1 := (cmpL_zero a b).1 (by omega)
    constructor
    · intro h
      injection h with h2 h3
      exact ⟨h1, bytesI_inj h3⟩
    · rintro ⟨_, rfl⟩; rfl
end Go.Proofs.YtnbmdecehlljcaaGreatDoor
namespace Go.Proofs.YtnbmdecehlljcaaGreatDoor
open Go.Lib
def version_Parse.f (a0 : ByteArray) : Option (List Int × ByteArray × Int) := if a0.size < 4294967281 then some (numsOf (parseV a0.data.toList), ⟨(tagOf (parseV a0.data.toList)).toArray⟩, errOf (parseV a0.data.toList)) else none
def okT (s : ByteArray) : Bool := (parseV s.data.toList).isSome
def version_Compare.f (l0_0 : List Int) (a0_1 : ByteArray) (l1_0 : List Int) (a1_1 : ByteArray) : Option Int := if l0_0.length ≤ 4611686018427387904 ∧ l1_0.length ≤ 4611686018427387904 ∧ a0_1.size ≤ 4611686018427387904 ∧ a1_1.size ≤ 4611686018427387904 then some (cmpV l0_0 a0_1.data.toList l1_0 a1_1.data.toList) else none
end Go.Proofs.YtnbmdecehlljcaaGreatDoor
namespace Go.Proofs.YtnbmdecehlljcaaGreatDoor
open Go.Shelf Go.RowKit Go.Sort
/-- What comes of a byte that is no digit. -/
def noDigit : Lib.NumEnd Nat := Lib.parseUintM 0 0 [0]
set_option linter.unusedVariables false
set_option linter.unusedSimpArgs false
set_option maxHeartbeats 32000000 in
set_option maxRecDepth 100000 in
theorem internal_ParseUint31_ne (t : ByteArray) (hne : t.size ≠ 0) (hmax : t.size ≤ 9223372036854775806) (w : World) :
    Calls Tryz.prog 101 #[.string t, .int .i64 10, .int .i64 31] w fun e w' => e = .returned (Lib.uintTupleM 142 2147483647 (Lib.parseUintM 2147483647 0 t.data.toList)) ∧ w' = Lib.bytesWorld w 5 t := by
  have hemp : t.toList.isEmpty = false := by
    rw [← decide_eq_emptyBytes]
    exact decide_eq_false (fun h => hne (by rw [h]; rfl))
  have hcv := Lib.run_convert_string_bytes (P := Tryz.prog) w 9 56 5 t (u := .string) Tryz.underlying9 Tryz.underlying56 Tryz.underlying5
  have hB : ∀ j, j < t.size → (Lib.bytesWorld w 5 t).cell? ⟨w.heap.size, j, none⟩ = some (.int .u8 (t.data.toList.getD j 0).toNat) := fun j hj => Lib.bytesWorld_cell w 5 t j hj
  obtain ⟨W1, hW1⟩ : ∃ W1, W1 = Lib.bytesWorld w 5 t := ⟨_, rfl⟩
  rw [← hW1] at hcv hB ⊢
  clear hW1
  obtain ⟨bs, hL⟩ : ∃ bs, bs = t.data.toList := ⟨_, rfl⟩
  have hLn : bs.length = t.size := by rw [hL, Lib.size_eq]
  rw [← hL] at hB ⊢
  clear hL
  -- 'maxVal := uint64(1)<<uint(bitSize) - 1': its value, for the walk to take
  have hmv : IntKind.u64.wrap (IntKind.u64.wrap 2147483648 - 1) = 2147483647 := by
    rw [IntKind.wrap_u64, IntKind.wrap_u64]
    decide
  go_enter Tryz.func101, Tryz.ntmps101
  go_wp2
  go_loop [12, 13, 101] (fun vu vn vi => ∃ (k acc : Nat) (a : Int), vu = .bool false ∧ vn = .int .u64 a ∧ vi = .int .i64 k ∧ k ≤ t.size ∧ Hid (a = (acc : Int) ∧ acc ≤ 2147483647 ∧ Lib.parseUintM 2147483647 0 bs = Lib.parseUintM 2147483647 acc (bs.drop k)))
    (fun _ _ vi => t.size - (intOf vi).toNat)
  case atStart => exact ⟨0, 0, 0, rfl, rfl, rfl, by omega, rfl, by omega, rfl⟩
  case round =>
    obtain ⟨k, acc, a, rfl, rfl, rfl, hk, hh⟩ := hrel
    obtain ⟨ha, hacc, hdec⟩ := hh.out
    clear hh
    have a0 : 0 ≤ a := by omega
    have a1 : a ≤ 2147483647 := by omega
    by_cases hkn : k < t.size
    · have hc := hB k hkn
      have hdrop : bs.drop k = bs[k]'(by omega) :: bs.drop (k + 1) := List.drop_eq_getElem_cons (by omega)
      have hget : bs.getD k 0 = bs[k]'(by omega) := by simp [List.getD, List.getElem?_eq_getElem (show k < bs.length by omega)]
      rw [hdrop] at hdec
      rw [hget] at hc
      generalize bs[k]'(by omega) = c at hc hdec
      have hc256 : c.toNat < 256 := c.toNat_lt
      clear hB hdrop hget
      by_cases hdig : 48 ≤ c.toNat ∧ c.toNat ≤ 57
      · obtain ⟨hd0, hd1⟩ := hdig
        have hcut : ¬ 1844674407370955162 ≤ acc := by omega
        by_cases hov : 2147483647 < acc * 10 + (c.toNat - 48)
        · -- OVER THE SIZE
          have hF : Lib.parseUintM 2147483647 acc (c :: bs.drop (k + 1)) = .range := by simp [Lib.parseUintM, hd0, hd1, hcut, hov]
          rw [hF] at hdec
          have iov : 2147483647 < a * 10 + ((c.toNat : Int) - 48) := by omega
          clear hcut hacc hF hov ha
          go_wp2
          go_ret2
          exact ⟨rfl, rfl⟩
        · have hF : Lib.parseUintM 2147483647 acc (c :: bs.drop (k + 1)) = Lib.parseUintM 2147483647 (acc * 10 + (c.toNat - 48)) (bs.drop (k + 1)) := by simp [Lib.parseUintM, hd0, hd1, hcut, hov]
          have HN : Hid (a * 10 + ((c.toNat : Int) - 48) = ((acc * 10 + (c.toNat - 48) : Nat) : Int) ∧ acc * 10 + (c.toNat - 48) ≤ 2147483647 ∧ Lib.parseUintM 2147483647 0 bs = Lib.parseUintM 2147483647 (acc * 10 + (c.toNat - 48)) (bs.drop (k + 1))) := Lib.hid ⟨by omega, by omega, hdec.trans hF⟩
          have iov : a * 10 + ((c.toNat : Int) - 48) ≤ 2147483647 := by omega
          clear hcut hacc hF hov hdec ha
          go_wp2
          refine ⟨⟨k + 1, acc * 10 + (c.toNat - 48), a * 10 + ((c.toNat : Int) - 48), rfl, (by first | rfl | (congr 1; omega)), (by first | rfl | (congr 1; omega)), by omega, HN⟩, by simp [intOf]; omega⟩
      · -- NO DIGIT: whatever way the text goes: (0, ErrSyntax)
        have hF : Lib.parseUintM 2147483647 acc (c :: bs.drop (k + 1)) = noDigit := by simp [Lib.parseUintM, hdig, noDigit]
        rw [hF] at hdec
        clear hacc hF ha
        have hv0 := bits_lo_u8 .or (c.toNat : Int) 32
        have hv1 := bits_hi_u8 .or (c.toNat : Int) 32
        have hu0 := bits_lo_u8 .or 95 32       -- at '_' the walk writes the byte out
        have hu1 := bits_hi_u8 .or 95 32
        go_wp2_with (go_at_call 121; refine (Tryz.internal_strconv_lower _ _).mono ?_; rintro e w' ⟨rfl, rfl⟩)
        all_goals go_ret2
        all_goals first | exact ⟨rfl, rfl⟩ | exact ⟨by rw [hdec]; rfl, rfl⟩
    · -- THE BYTES ARE AT AN END
      have hkk : k = t.size := by omega
      subst hkk
      have hF : Lib.parseUintM 2147483647 acc (bs.drop t.size) = .ok acc := by rw [List.drop_eq_nil_of_le (by omega)]; rfl
      rw [hF] at hdec
      subst ha
      clear hacc hF a0 a1
      go_wp2
      go_ret2
      exact ⟨rfl, rfl⟩
theorem internal_ParseUint31 (t : ByteArray) (hmax : t.size ≤ 9223372036854775806) (w : World) :
    Calls Tryz.prog 101 #[.string t, .int .i64 10, .int .i64 31] w fun e w' => e = .returned (Lib.uintTupleM 142 2147483647 (Lib.parseUintB 31 t.data.toList)) ∧ (w' = w ∨ w' = Lib.bytesWorld w 5 t) := by
  have eM : (2 : Nat) ^ 31 - 1 = 2147483647 := by decide
  by_cases h0 : t.size = 0
  · have ht : t = ⟨#[]⟩ := by
      apply ByteArray.ext
      exact Array.eq_empty_of_size_eq_zero h0
    subst ht
    exact (Tryz.internal_strconv_ParseUint_empty 10 31 w).mono fun e w' ⟨he, hw⟩ => ⟨he, Or.inl hw⟩
  · have hne : t.data.toList ≠ [] := fun h => h0 (by rw [Lib.size_eq, h]; rfl)
    refine (internal_ParseUint31_ne t h0 hmax w).mono fun e w' ⟨he, hw⟩ => ⟨?_, Or.inr hw⟩
    rw [he, Lib.parseUintB, if_neg hne, eM]
/-- The public one: a number and no error, or a number and an error that is not nil. -/
def ParsedUint (r : Lib.NumEnd Nat) (e : Ending) : Prop := (∃ u : Nat, r = .ok u ∧ e = .returned (.tuple #[.int .u64 u, .nilIface])) ∨ ((∀ u, r ≠ .ok u) ∧ ∃ (u : Int) (t : TypeId) (a : Addr), e = .returned (.tuple #[.int .u64 u, .iface t (.pointer (some a))]))
set_option maxHeartbeats 4000000 in
set_option maxRecDepth 100000 in
theorem ParseUint31 (s : ByteArray) (hlim : s.size ≤ 281474976710656) (w : World) (hs : ErrCell w 3) (hr : ErrCell w 4) :
    Calls Tryz.prog 65 #[.string s, .int .i64 10, .int .i64 31] w fun e w' => ParsedUint (Lib.parseUintB 31 s.data.toList) e ∧ Below w.heap.size w w' := by
  have hI := internal_ParseUint31 s (by omega) w
  cases h : Lib.parseUintB 31 s.data.toList
  · rename_i u
    rw [h] at hI
    have hI : Calls Tryz.prog 101 #[.string s, .int .i64 10, .int .i64 31] w fun e w' => e = .returned (.tuple #[.int .u64 u, .nilIface]) ∧ (w' = w ∨ w' = Lib.bytesWorld w 5 s) := hI
    clear h hs hr
    go_enter Tryz.func65, Tryz.ntmps65
    go_wp2_with (go_at_call 101; refine hI.mono ?_; rintro e W1 ⟨rfl, hW⟩)
    go_wp2
    go_ret2
    refine ⟨Or.inl ⟨u, rfl, rfl⟩, ?_⟩
    rcases hW with rfl | rfl
    · exact Below.refl _ _
    · exact Lib.bytesWorld_below _ _ _
  ·
    rw [h] at hI
    have hI : Calls Tryz.prog 101 #[.string s, .int .i64 10, .int .i64 31] w fun e w' => e = .returned (.tuple #[.int .u64 0, .iface 142 (.int .i64 2)]) ∧ (w' = w ∨ w' = Lib.bytesWorld w 5 s) := hI
    clear h
    go_enter Tryz.func65, Tryz.ntmps65
    go_wp2_with (go_at_call 101; refine hI.mono ?_)
    rintro e W1 ⟨rfl, hW⟩
    have hb1 : Below w.heap.size w W1 := by
      rcases hW with rfl | rfl
      · exact Below.refl _ _
      · exact Lib.bytesWorld_below _ _ _
    obtain ⟨ev, hv1, hev⟩ := hs.below hb1
    clear hW hI hs hr
    go_wp2_with (go_at_call 102; refine (Tryz.strconv_toError_syntax ⟨#[80, 97, 114, 115, 101, 85, 105, 110, 116]⟩ s 10 31 ev _ hlim ?_ hev).mono ?_)
    · exact hv1
    rintro e W2 ⟨N, rfl, h1, h2, h3⟩
    go_wp2
    go_ret2
    exact ⟨Or.inr ⟨by simp, _, _, _, rfl⟩, hb1.trans (h3.mono hb1.size)⟩
  ·
    rw [h] at hI
    have hI : Calls Tryz.prog 101 #[.string s, .int .i64 10, .int .i64 31] w fun e w' => e = .returned (.tuple #[.int .u64 2147483647, .iface 142 (.int .i64 1)]) ∧ (w' = w ∨ w' = Lib.bytesWorld w 5 s) := hI
    clear h
    go_enter Tryz.func65, Tryz.ntmps65
    go_wp2_with (go_at_call 101; refine hI.mono ?_)
    rintro e W1 ⟨rfl, hW⟩
    have hb1 : Below w.heap.size w W1 := by
      rcases hW with rfl | rfl
      · exact Below.refl _ _
      · exact Lib.bytesWorld_below _ _ _
    obtain ⟨ev, hv1, hev⟩ := hr.below hb1
    clear hW hI hs hr
    go_wp2_with (go_at_call 102; refine (Tryz.strconv_toError_range ⟨#[80, 97, 114, 115, 101, 85, 105, 110, 116]⟩ s 10 31 ev _ hlim ?_ hev).mono ?_)
    · exact hv1
    rintro e W2 ⟨N, rfl, h1, h2, h3⟩
    go_wp2
    go_ret2
    exact ⟨Or.inr ⟨by simp, _, _, _, rfl⟩, hb1.trans (h3.mono hb1.size)⟩
set_option maxHeartbeats 8000000 in
set_option maxRecDepth 100000 in
theorem internal_FormatUint10 (u : Nat) (hu : u < 9223372036854775808) (w : World) (htab : Lib.TabIs Tryz.prog w "internal/strconv.uint64pow10" .u64 Lib.pow10Tab) :
    Calls Tryz.prog 103 #[.int .u64 u, .int .i64 10] w fun e w' => e = .returned (.string ⟨(Lib.decDigits u).toArray⟩) ∧ ∃ k os, w' = grow (w.drewN k) os := by
  by_cases hs : u < 100
  · have hw : IntKind.i64.wrap (u : Int) = u := IntWalk.i64_in _ (by omega)
    have hsi : (u : Int) < 100 := by omega
    go_enter Tryz.func103, Tryz.ntmps103
    go_wp2_with (go_at_call 127; refine (Tryz.internal_strconv_small u hs _).mono ?_; rintro e w' ⟨rfl, rfl⟩)
    go_ret
    exact ⟨rfl, 0, #[], by simp [World.drewN_zero]⟩
  · have hu1 : 1 ≤ u := by omega
    have hu64 : u < 18446744073709551616 := by omega
    have hsi : ¬ (u : Int) < 100 := by omega
    have hnd20 : Lib.nDigits u ≤ 20 := by have := Lib.numDigits_eq u hu1 hu64; split at this <;> omega
    have hal : Tryz.prog.arrayLen 147 = 24 := by simp [Program.arrayLen, Tryz.underlying147]
    have hsl1 : ∀ W, (Instr.sliceAt 147 (.pointer (some ⟨w.heap.size, 0, none⟩)) none (some (.int .i64 (Lib.nDigits u : Int))) none).run Tryz.prog W = .ok (.slice (some ⟨w.heap.size, 0, none⟩) (Lib.nDigits u) 24) W := fun W => by
      rw [run_sliceAt_array_h W 147 ⟨w.heap.size, 0, none⟩ (by simp [Program.arrayLen, Program.elem, Tryz.underlying147]) .i64 (Lib.nDigits u : Int) (by omega) (by rw [hal]; omega)]
      go_simp
    have hH0 := Lib.holds_zero0 w 147 (Lib.nDigits u) (by omega)
    have hfmt := Tryz.internal_strconv_formatBase10 w.heap.size 0 24 u (Array.replicate (Lib.nDigits u) 0) (w.alloc (.cells Lib.zeros24 147)) hH0 (by rw [Array.size_replicate]; exact Lib.lt_pow_nDigits u) hu64 (by rw [Array.size_replicate]; omega)
    rw [Array.size_replicate] at hfmt
    have HH0 := Lib.hid hH0
    clear hH0 hal
    go_enter Tryz.func103, Tryz.ntmps103
    go_wp2_with (first
      | (go_at_call 128; refine (Tryz.internal_strconv_numDigits u hu1 hu64 _ (Lib.tabIs_alloc htab _)).mono ?_; rintro e w' ⟨rfl, rfl⟩))
    go_at_call 129
    refine hfmt.mono ?_
    rintro e w' ⟨rfl, k, v', dk, rfl, hF⟩
    have hcv : (convert 56 9 (.slice (some ⟨w.heap.size, 0, none⟩) (Lib.nDigits u) 24)).run Tryz.prog ((putRow (fun (b : UInt8) => Value.int .u8 (b.toNat : Int)) (w.alloc (.cells Lib.zeros24 147)) w.heap.size 0 dk).drewN k) = .ok (.string ⟨(Lib.decDigits u).toArray⟩) ((putRow (fun (b : UInt8) => Value.int .u8 (b.toNat : Int)) (w.alloc (.cells Lib.zeros24 147)) w.heap.size 0 dk).drewN k) := by
      have h := run_convert_bytes_back (P := Tryz.prog) ((putRow (fun (b : UInt8) => Value.int .u8 (b.toNat : Int)) (w.alloc (.cells Lib.zeros24 147)) w.heap.size 0 dk).drewN k) 56 9 5 ⟨w.heap.size, 0, none⟩ 24 (Lib.decDigits u) Tryz.underlying56 Tryz.underlying5 Tryz.underlying9 (fun j hj => by
        rw [Lib.row_is_numeral hF j hj, Lib.add_plain, World.cell?_drewN]
        exact cell?_putRow (fun (b : UInt8) => Value.int .u8 (b.toNat : Int)) _ w.heap.size 0 _ dk HH0.out (by rw [hF.size, Array.size_replicate]) j (by rw [hF.size]; rw [Lib.decDigits_length] at hj; exact hj))
      rw [Lib.decDigits_length] at h
      exact h
    go_wp2
    go_ret
    obtain ⟨os, eo⟩ := Lib.fin_at w (.cells Lib.zeros24 147) dk k 0
    exact ⟨rfl, k, os, eo⟩
end Go.Proofs.YtnbmdecehlljcaaGreatDoor
namespace Go.Proofs.YtnbmdecehlljcaaGreatDoor
open Go.Shelf Go.RowKit Go.Sort Go.Lib Go.Proofs.YtnbmdecehlljcaaGreatDoorW.PrintWords Go.Proofs.YtnbmdecehlljcaaGreatDoorW.PrintMore
set_option linter.unusedVariables false
set_option linter.unusedSimpArgs false
theorem FormatUint10 (u : Nat) (hu : u < 9223372036854775808) (w : World) (h : Lib.TabIs Tryz.prog w "internal/strconv.uint64pow10" .u64 Lib.pow10Tab) :
    Calls Tryz.prog 66 #[.int .u64 u, .int .i64 10] w fun e w' => e = .returned (.string ⟨(Lib.decDigits u).toArray⟩) ∧ Below w.heap.size w w' := by
  have H := Aside0.mk (internal_FormatUint10 u hu w h)
  clear h
  go_enter Tryz.func66, Tryz.ntmps66
  go_wp2_with (go_at_call 103; refine (H.out).mono ?_; rintro e w' ⟨rfl, hk⟩)
  obtain ⟨k, os, rfl⟩ := hk
  go_wp2
  go_ret
  exact ⟨rfl, by rfl, by rfl, by rfl, by simp [grow], fun j hj => by simp [grow, Array.getElem?_append, hj]⟩
theorem tag1_any (x : Nat) (hx : x ≤ 1114111) (w : World) : Calls Tryz.prog 71 #[.int .i32 x] w fun e w' => e = .returned (.bool (badRune x)) ∧ w' = w := by
  have hr : ∀ b, badRune x = b → Ending.returned (.bool b) = .returned (.bool (badRune x)) := fun b h => by rw [h]
  by_cases c1 : x < 97
  · by_cases c2 : x < 48
    · have e := hr true (by unfold badRune; simp; omega)
      have b1 : (x : Int) < 97 := by omega
      have b2 : (x : Int) < 48 := by omega
      go_enter Tryz.func71, Tryz.ntmps71
      go_wp2
      go_ret
      exact ⟨e, rfl⟩
    · by_cases c3 : 57 < x
      · have e := hr true (by unfold badRune; simp; omega)
        have b1 : (x : Int) < 97 := by omega
        have b2 : ¬ (x : Int) < 48 := by omega
        have b3 : (57 : Int) < x := by omega
        go_enter Tryz.func71, Tryz.ntmps71
        go_wp2
        go_ret
        exact ⟨e, rfl⟩
      · have e := hr false (by unfold badRune; simp; omega)
        have b1 : (x : Int) < 97 := by omega
        have b2 : ¬ (x : Int) < 48 := by omega
        have b3 : ¬ (57 : Int) < x := by omega
        go_enter Tryz.func71, Tryz.ntmps71
        go_wp2
        go_ret
        exact ⟨e, rfl⟩
  · by_cases c2 : 122 < x
    · have e := hr true (by unfold badRune; simp; omega)
      have b1 : ¬ (x : Int) < 97 := by omega
      have b2 : (122 : Int) < x := by omega
      have b3 : ¬ (x : Int) < 48 := by omega
      have b4 : (57 : Int) < x := by omega
      go_enter Tryz.func71, Tryz.ntmps71
      go_wp2
      go_ret
      exact ⟨e, rfl⟩
    · have e := hr false (by unfold badRune; simp; omega)
      have b1 : ¬ (x : Int) < 97 := by omega
      have b2 : ¬ (122 : Int) < x := by omega
      go_enter Tryz.func71, Tryz.ntmps71
      go_wp2
      go_ret
      exact ⟨e, rfl⟩
theorem tag_any (s : ByteArray) (hs : s.size ≤ 9223372036854775807) (w : World) : Calls Tryz.prog 39 #[.string s] w fun e w' => e = .returned (.bool (tagB s.data.toList)) ∧ Below w.heap.size w w' := by
  have eg : ∀ args w, (callFunc 71 args).run Tryz.prog w = .ok (.enter 71 args) w := enters_of Tryz.func71 (by kernel_rfl) rfl
  have hC := fun W => Tryz.strings_ContainsFunc_runes 71 #[] eg badRune s W (fun W' x hx hb => (tag1_any x hx W').mono fun e w' ⟨h1, h2⟩ => ⟨h1, 0, by rw [h2, World.drewN_zero]⟩)
  rw [contains_bad] at hC
  have HC := Aside0.mk hC
  clear hC
  by_cases h : s.size ≤ 16
  · have e : tagB s.data.toList = s.data.toList.all isTagB := by unfold tagB; rw [← size_eq, decide_eq_true h, Bool.true_and]
    rw [e]
    have h' : (s.size : Int) ≤ 16 := by omega
    generalize s.data.toList.all isTagB = b at *
    clear e
    go_enter Tryz.func39, Tryz.ntmps39
    go_wp2_with (go_at_call 70; refine (HC.out _).mono ?_; rintro e w' ⟨rfl, hb⟩; have HB := Aside0.mk hb; clear hb)
    go_ret
    exact ⟨by cases b <;> rfl, HB.out⟩
  · have e : tagB s.data.toList = false := by unfold tagB; rw [← size_eq, decide_eq_false h, Bool.false_and]
    rw [e]
    have h' : ¬ (s.size : Int) ≤ 16 := by omega
    clear e HC
    go_enter Tryz.func39, Tryz.ntmps39
    go_wp2
    go_ret
    exact ⟨rfl, Below.refl _ _⟩
end Go.Proofs.YtnbmdecehlljcaaGreatDoor
namespace Go.Proofs.YtnbmdecehlljcaaGreatDoor
open Go.Shelf Go.RowKit Go.Sort Go.Lib Go.Proofs.YtnbmdecehlljcaaGreatDoorW.PrintWords Go.Proofs.YtnbmdecehlljcaaGreatDoorW.PrintMore
set_option linter.unusedVariables false
set_option linter.unusedSimpArgs false
def ParsePost (r : Option (List Int × List UInt8)) (w : World) (e : Ending) (w' : World) : Prop :=
  ∃ v, e = .returned (.tuple #[.agg #[v, .string ⟨(tagOf r).toArray⟩], .int .i64 (errOf r)]) ∧ Kd.R (Kd.int .i64) 3 w' w.heap.size (fun _ => True) v (numsOf r) ∧ Below w.heap.size w w'
theorem info_int : (Tryz.prog.info? 3).map (fun i => (i.zero, i.size, i.bytes)) = some (some (.int .i64 0), 1, 8) := by kernel_rfl
/-- The version under way: its block. -/
structure VAt (W : World) (b : Nat) (ns : List Int) (t : ByteArray) (rv : Value) : Prop where
  tb : W.heap[b]? = some (.cells #[rv, .string t] 24 (0, 0))
  own : W.ownsRow (b + 1) 3 1 rv ns.length (ns.map (Value.int .i64))
theorem VAt.below {W W' : World} {b : Nat} {ns : List Int} {t : ByteArray} {rv : Value} (h : VAt W b ns t rv) (hb : Below W.heap.size W W') : VAt W' b ns t rv :=
  ⟨(hb.block _ (lt_of_block h.tb)).trans h.tb, own_move h.own (fun k hk => hb.block k (own_lt h.own k hk))⟩
theorem own_slice {w : World} {b e z n : Nat} {v : Value} {xs : List Value} (h : w.ownsRow b e z v (n + 1) xs) : ∃ g cap, v = .slice (some ⟨g, 0, none⟩) (n + 1) cap := by
  rcases h.2 with ⟨_, h0⟩ | ⟨g, cap, cur, rfl, _⟩
  · omega
  · exact ⟨g, cap, rfl⟩
theorem VAt.pushed {w w2 : World} {b : Nat} {ns : List Int} {t : ByteArray} {rv v' : Value} {x : Int} (h : VAt w b ns t rv) (ho : w2.ownsRow (b + 1) 3 1 v' (ns.length + 1) (ns.map (Value.int .i64) ++ [.int .i64 x])) (hg : w.grownBy w2 rv.ownBlock) :
    VAt (w2.setCell ⟨b, 0, none⟩ v') b (ns ++ [x]) t v' := by
  have hbt : w2.heap[b]? = some (.cells #[rv, .string t] 24 (0, 0)) := (hg.block b (lt_of_block h.tb) (fun e => by have := own_base h.own b e.symm; omega)).trans h.tb
  refine ⟨?_, own_move (by simpa using ho) (fun k hk => Below.heap_setCell _ _ _ _ ?_)⟩
  · rw [heap_setCell_same _ _ _ _ _ _ hbt]
    rfl
  · have := own_base ho k hk
    show k ≠ b
    omega
theorem put_c1 (w : World) (x : Int) (t N : Nat) (hN : w.heap.size = N) : ∀ (j : Nat) (u : Value), [Value.int .i64 x][j]? = some u → (w.alloc (Obj.cells #[Value.int .i64 x] t)).cell? ((⟨N, 0, none⟩ : Addr).add j) = some u := by
  subst hN
  intro j u hu
  cases j with
  | zero => simp at hu; subst hu; simp [Addr.add]
  | succ j => simp at hu
theorem Cut_at (s : ByteArray) (hs : s.size < 4294967281) (a t : List UInt8) (f : Bool) (hc : cutOn 45 s.data.toList = (a, t, f)) (W : World) (hT : VTabs W) :
    Calls Tryz.prog 63 #[.string s, .string ⟨#[45]⟩] W fun e w' => e = .returned (.tuple #[.string ⟨a.toArray⟩, .string ⟨t.toArray⟩, .bool f]) ∧ Below W.heap.size W w' := by
  obtain ⟨m, hm⟩ := hT.ml
  refine (Tryz.strings_Cut s ⟨#[45]⟩ m W hs hm).mono fun e w' ⟨h1, n, h2⟩ => ⟨?_, by rw [h2]; exact ⟨rfl, rfl, rfl, Nat.le_refl _, fun _ _ => rfl⟩⟩
  rw [h1]
  have e : Lib.cut s.data.toList (⟨#[45]⟩ : ByteArray).data.toList = (a, t, f) := (cut_one 45 _).trans hc
  rw [e]
/-- The result's cell: still empty. -/
structure RAt (W : World) (b : Nat) : Prop where
  rb : W.heap[b]? = some (.cells #[.slice none 0 0, .string ⟨#[]⟩] 24 (0, 0))
theorem RAt.below {W W' : World} {b : Nat} (h : RAt W b) (hb : Below W.heap.size W W') : RAt W' b := ⟨(hb.block _ (lt_of_block h.rb)).trans h.rb⟩
theorem RAt.cells {W : World} {b : Nat} (h : RAt W b) : W.cell? ⟨b, 0, none⟩ = some (.slice none 0 0) ∧ W.cell? ⟨b, 1, none⟩ = some (.string ⟨#[]⟩) ∧ W.frozen? ⟨b, 0, none⟩ = false ∧ W.frozen? ⟨b, 1, none⟩ = false := by
  have := h.rb
  refine ⟨by simp [World.cell?, this], by simp [World.cell?, this], by simp [World.frozen?, this], by simp [World.frozen?, this]⟩
theorem RAt.put {W : World} {b : Nat} (h : RAt W b) (x y : Value) : ((W.setCell ⟨b, 0, none⟩ x).setCell ⟨b, 1, none⟩ y).heap[b]? = some (.cells #[x, y] 24 (0, 0)) := by
  have h1 := heap_setCell_same W b 0 _ _ x h.rb
  have h2 := heap_setCell_same _ b 1 _ _ y h1
  rw [h2]
  rfl
def FailPost (w : World) (e : Ending) (w' : World) : Prop := e = .returned (.tuple #[.agg #[.slice none 0 0, .string ⟨#[]⟩], .int .i64 130]) ∧ Below w.heap.size w w'
set_option maxRecDepth 100000 in
set_option maxHeartbeats 4000000 in
theorem Parse_cut (s : ByteArray) (hs : s.size < 4294967281) (w : World) (hT : VTabs w) (a t : List UInt8) (f : Bool) (hc : cutOn 45 s.data.toList = (a, t, f)) (hbad : (f && t.isEmpty || !tagB t) = true) :
    Calls Tryz.prog 35 #[.string s] w (FailPost w) := by
  have htl : t.length ≤ 9223372036854775807 := by
    have := (cutOn_len 45 s.data.toList).2
    rw [hc] at this
    have e := Lib.size_eq s
    simp only at this
    omega
  have HC := Aside0.mk (Cut_at s hs a t f hc)
  have HT := Aside0.mk hT
  have HG := Aside0.mk (tag_any ⟨t.toArray⟩ htl)
  have H0 : RAt (w.alloc (.cells #[.slice none 0 0, .string ⟨#[]⟩] 24)) w.heap.size := ⟨heap_alloc_new _ _⟩
  clear hT hc htl
  by_cases h1 : (f && t.isEmpty) = true
  · simp only [Bool.and_eq_true] at h1
    obtain ⟨rfl, h2⟩ := h1
    clear hbad HG
    go_enter Tryz.func35, Tryz.ntmps35
    go_wp2_with fail
    refine (HC.out _ (HT.out.below ((Below.refl _ _).alloc (Nat.le_refl _) _))).mono ?_
    rintro e w1 ⟨rfl, hb⟩
    have HB := Aside0.mk (((Below.refl _ w).alloc (Nat.le_refl _) _).trans (hb.mono (by simp)))
    have HR := Aside0.mk (H0.below hb)
    obtain ⟨x0, x1, x2, x3⟩ := HR.out.cells
    clear hb
    go_wp2_with fail
    (try simp only [Exit.inBlock, Exit.then]); refine bodyPost_ret (results_ct rfl _ _ w.heap.size _ #[.slice none 0 0, .string ⟨#[]⟩] (0, 0) _ rfl (HR.out.put _ _) Tryz.underlying24 rfl (by kernel_rfl)) rfl ?_
    exact ⟨rfl, (HB.out.setCell (Nat.le_refl _) _).setCell (Nat.le_refl _) _⟩
  · have h3 : tagB t = false := by
      cases hq : tagB t with
      | false => rfl
      | true => rw [hq] at hbad; simp at hbad; simp [hbad] at h1
    have HG : Aside0 (∀ W, Calls Tryz.prog 39 #[.string ⟨t.toArray⟩] W fun e w' => e = .returned (.bool false) ∧ Below W.heap.size W w') := ⟨fun W => by have := HG.out W; rw [← h3]; exact this⟩
    clear hbad h3
    cases f with
    | false =>
      go_enter Tryz.func35, Tryz.ntmps35
      go_wp2_with fail
      refine (HC.out _ (HT.out.below ((Below.refl _ _).alloc (Nat.le_refl _) _))).mono ?_
      rintro e w1 ⟨rfl, hb⟩
      have HB := Aside0.mk (((Below.refl _ w).alloc (Nat.le_refl _) _).trans (hb.mono (by simp)))
      have HR := Aside0.mk (H0.below hb)
      clear hb
      go_wp2_with fail
      refine (HG.out _).mono ?_
      rintro e w2 ⟨rfl, hb⟩
      replace HR := Aside0.mk (HR.out.below hb)
      obtain ⟨x0, x1, x2, x3⟩ := HR.out.cells
      replace HB := Aside0.mk (HB.out.trans (hb.mono HB.out.size))
      clear hb
      go_wp2_with fail
      (try simp only [Exit.inBlock, Exit.then]); refine bodyPost_ret (results_ct rfl _ _ w.heap.size _ #[.slice none 0 0, .string ⟨#[]⟩] (0, 0) _ rfl (HR.out.put _ _) Tryz.underlying24 rfl (by kernel_rfl)) rfl ?_
      exact ⟨rfl, (HB.out.setCell (Nat.le_refl _) _).setCell (Nat.le_refl _) _⟩
    | true =>
      have h2 : t.isEmpty = false := by simpa using h1
      clear h1
      go_enter Tryz.func35, Tryz.ntmps35
      go_wp2_with fail
      refine (HC.out _ (HT.out.below ((Below.refl _ _).alloc (Nat.le_refl _) _))).mono ?_
      rintro e w1 ⟨rfl, hb⟩
      have HB := Aside0.mk (((Below.refl _ w).alloc (Nat.le_refl _) _).trans (hb.mono (by simp)))
      have HR := Aside0.mk (H0.below hb)
      clear hb
      go_wp2_with fail
      refine (HG.out _).mono ?_
      rintro e w2 ⟨rfl, hb⟩
      replace HR := Aside0.mk (HR.out.below hb)
      obtain ⟨x0, x1, x2, x3⟩ := HR.out.cells
      replace HB := Aside0.mk (HB.out.trans (hb.mono HB.out.size))
      clear hb
      go_wp2_with fail
      (try simp only [Exit.inBlock, Exit.then]); refine bodyPost_ret (results_ct rfl _ _ w.heap.size _ #[.slice none 0 0, .string ⟨#[]⟩] (0, 0) _ rfl (HR.out.put _ _) Tryz.underlying24 rfl (by kernel_rfl)) rfl ?_
      exact ⟨rfl, (HB.out.setCell (Nat.le_refl _) _).setCell (Nat.le_refl _) _⟩
theorem cell_of_heapK {W : World} {b : Nat} {cs : Array Value} {t : TypeId} {fr : Nat × Nat} (h : W.heap[b]? = some (.cells cs t fr)) (i : Nat) : W.cell? ⟨b, i, none⟩ = cs[i]? := by simp [World.cell?, h]
/-- A text's parts, where strings.Split lays them. -/
def PartsAt (W : World) (b : Nat) (ps : List ByteArray) : Prop := ∀ (j : Nat) (p : ByteArray), ps[j]? = some p → W.cell? ⟨b, j, none⟩ = some (.string p)
theorem PartsAt.below {W W' : World} {b : Nat} {ps : List ByteArray} (h : PartsAt W b ps) (hb : Below W.heap.size W W') : PartsAt W' b ps := fun j p hp => pw_cell_below hb (h j p hp)
theorem Split_at (s : ByteArray) (hs : s.size < 4294967281) (W : World) (hT : VTabs W) : ∃ ps : List ByteArray, ps.map (·.data.toList) = splitOn 46 s.data.toList ∧
    Calls Tryz.prog 64 #[.string s, .string ⟨#[46]⟩] W fun e w' => e = .returned (.slice (some ⟨W.heap.size, 0, none⟩) ps.length ps.length) ∧ PartsAt w' W.heap.size ps ∧ W.heap.size < w'.heap.size ∧ Below W.heap.size W w' := by
  obtain ⟨m, hm⟩ := hT.ml
  have e1 : Lib.countB s ⟨#[46]⟩ = s.data.toList.count 46 := by
    show Lib.count s.data.toList [46] = _
    exact Lib.count_one 46 _
  have e2 : (Lib.splitB ⟨#[46]⟩ 0 (Lib.countB s ⟨#[46]⟩) s).length = Lib.countB s ⟨#[46]⟩ + 1 := Lib.splitB_all ⟨#[46]⟩ (by decide) 0 _ s rfl
  refine ⟨Lib.splitB ⟨#[46]⟩ 0 (Lib.countB s ⟨#[46]⟩) s, ?_, ?_⟩
  · rw [Lib.splitB_data, e1]
    exact splitK_one 46 _
  · refine (Tryz.strings_Split s ⟨#[46]⟩ m W hs hm (by decide)).mono fun e w' ⟨h1, h2⟩ => ?_
    rw [h1, h2, e2]
    refine ⟨rfl, ?_, by simp, (Below.refl _ _).alloc (Nat.le_refl _) _⟩
    intro j p hp
    have hb := heap_alloc_new W (.cells ((Lib.splitB ⟨#[46]⟩ 0 (Lib.countB s ⟨#[46]⟩) s).map Value.string).toArray 9)
    rw [cell_of_heapK hb, List.getElem?_toArray, List.getElem?_map, hp]
    rfl
end Go.Proofs.YtnbmdecehlljcaaGreatDoor
namespace Go.Proofs.YtnbmdecehlljcaaGreatDoor
open Go.Shelf Go.RowKit Go.Sort Go.Lib Go.Proofs.YtnbmdecehlljcaaGreatDoorW.PrintWords Go.Proofs.YtnbmdecehlljcaaGreatDoorW.PrintMore
set_option linter.unusedVariables false
set_option linter.unusedSimpArgs false
structure GB (w w' : World) : Prop where
  b : Below w.heap.size w w'
  d : w.drawn ≤ w'.drawn
theorem GB.refl (w : World) : GB w w := ⟨Below.refl _ _, Nat.le_refl _⟩
theorem GB.trans {w a c : World} (h : GB w a) (k : GB a c) : GB w c := ⟨h.b.trans (k.b.mono h.b.size), Nat.le_trans h.d k.d⟩
theorem GB.alloc {w a : World} (h : GB w a) (o : Obj) : GB w (a.alloc o) := ⟨h.b.alloc h.b.size _, h.d⟩
theorem GB.setCell {w a : World} (h : GB w a) {p : Addr} (hp : w.heap.size ≤ p.block) (v : Value) : GB w (a.setCell p v) := ⟨h.b.setCell hp v, h.d⟩
theorem GB.drewN {w a : World} (h : GB w a) (n : Nat) : GB w (a.drewN n) := ⟨⟨h.b.os, h.b.tape, h.b.output, h.b.size, h.b.block⟩, Nat.le_trans h.d (Nat.le_add_right _ _)⟩
theorem GB.drew {w a : World} (h : GB w a) : GB w a.drew := ⟨h.b.drew, Nat.le_trans h.d (Nat.le_succ _)⟩
theorem GB.bytes {w a : World} (h : GB w a) (e : TypeId) (s : ByteArray) : GB w (Lib.bytesWorld a e s) := h.trans ⟨Lib.bytesWorld_below _ _ _, by unfold Lib.bytesWorld World.freeze; split <;> exact Nat.le_succ _⟩
/-- The form that the library's sorts ask for. -/
theorem GB.grown {w w' : World} (h : GB w w') : ∃ q os, w' = Go.Sort.grow (w.drewN q) os := by
  obtain ⟨p, hp⟩ := regrown_of_below h.b
  refine ⟨w'.drawn - w.drawn, p.os, ?_⟩
  have hd := h.d
  have e : p.d = w.drawn + (w'.drawn - w.drawn) := by
    have : w'.drawn = p.d := by rw [hp]; rfl
    omega
  rw [hp]
  show Go.Sort.grow (redrawn w p.d) p.os = Go.Sort.grow (w.drewN ((Go.Sort.grow (redrawn w p.d) p.os).drawn - w.drawn)) p.os
  congr 1
  unfold redrawn World.drewN
  have : (Go.Sort.grow { w with drawn := p.d } p.os).drawn = p.d := rfl
  rw [this]
  congr 1
  have h2 : w'.drawn = p.d := by rw [hp]; rfl
  omega
end Go.Proofs.YtnbmdecehlljcaaGreatDoor
namespace Go.Proofs.YtnbmdecehlljcaaGreatDoor
open Go.Shelf Go.RowKit Go.Sort Go.Lib Go.Proofs.YtnbmdecehlljcaaGreatDoorW.PrintWords Go.Proofs.YtnbmdecehlljcaaGreatDoorW.PrintMore
set_option linter.unusedVariables false
set_option linter.unusedSimpArgs false
theorem splitOn_len (c : UInt8) : ∀ (l p : List UInt8), p ∈ splitOn c l → p.length ≤ l.length
  | [], p, h => by simp [splitOn] at h; subst h; simp
  | b :: t, p, h => by
    have ih := splitOn_len c t
    unfold splitOn at h
    split at h
    · rcases List.mem_cons.1 h with rfl | h
      · simp
      · have := ih p h; simp; omega
    · split at h
      · rename_i q r hq
        rcases List.mem_cons.1 h with rfl | h
        · have := ih q (by rw [hq]; simp)
          simp; omega
        · have := ih p (by rw [hq]; simp [h])
          simp; omega
      · simp at h; subst h; simp
theorem VAt.cells {W : World} {b : Nat} {ns : List Int} {t : ByteArray} {rv : Value} (h : VAt W b ns t rv) : W.cell? ⟨b, 0, none⟩ = some rv ∧ W.cell? ⟨b, 1, none⟩ = some (.string t) := by
  have := h.tb
  exact ⟨by simp [World.cell?, this], by simp [World.cell?, this]⟩
theorem VAt.row {W : World} {b N : Nat} {ns : List Int} {t : ByteArray} {rv : Value} (h : VAt W b ns t rv) (hN : N ≤ b) (p q : Addr) (hp : p.block < b) (hq : q.block < b) (x y : Value) : Kd.R (Kd.int .i64) 3 ((W.setCell p x).setCell q y) N (fun _ => True) rv ns := by
  have ho : ((W.setCell p x).setCell q y).ownsRow (b + 1) 3 1 rv ns.length (ns.map (Value.int .i64)) := by
    refine own_move h.own (fun k hk => ?_)
    have := own_base h.own k hk
    rw [Below.heap_setCell _ _ _ _ (by show k ≠ q.block; omega), Below.heap_setCell _ _ _ _ (by show k ≠ p.block; omega)]
  have hr : Kd.R (Kd.int .i64) 3 ((W.setCell p x).setCell q y) (b + 1) (fun _ => True) rv ns := Kd.R_of_own ho (fun _ _ => trivial)
  exact Kd.R_lower hr (by omega)
theorem bytes_eq {q p : ByteArray} (h : q.toList = p.toList) : q = p := by
  have h' : q.data.toList = p.data.toList := by simpa [toList_data] using h
  exact ByteArray.ext (Array.ext' h')
structure PMem (w0 W : World) (b1 P : Nat) (ps : List ByteArray) (ns : List Int) (ts : ByteArray) (rv : Value) : Prop where
  v : VAt W b1 ns ts rv
  p : PartsAt W P ps
  r : RAt W w0.heap.size
  b : Below w0.heap.size w0 W
  lt : w0.heap.size < b1
  hp : P < b1
theorem PMem.below {w0 W W' : World} {b1 P : Nat} {ps : List ByteArray} {ns : List Int} {ts : ByteArray} {rv : Value} (h : PMem w0 W b1 P ps ns ts rv) (hb : Below W.heap.size W W') : PMem w0 W' b1 P ps ns ts rv :=
  ⟨h.v.below hb, h.p.below hb, h.r.below hb, h.b.trans (hb.mono h.b.size), h.lt, h.hp⟩
theorem VAt.free {W : World} {b : Nat} {ns : List Int} {t : ByteArray} {rv : Value} (h : VAt W b ns t rv) : W.frozen? ⟨b, 0, none⟩ = false := by
  have := h.tb
  simp [World.frozen?, this]
theorem VAt.grown {w w2 : World} {b : Nat} {ns : List Int} {t : ByteArray} {rv : Value} (h : VAt w b ns t rv) (hg : w.grownBy w2 rv.ownBlock) : w2.cell? ⟨b, 0, none⟩ = some rv ∧ w2.frozen? ⟨b, 0, none⟩ = false := by
  have hbt : w2.heap[b]? = some (.cells #[rv, .string t] 24 (0, 0)) := (hg.block b (lt_of_block h.tb) (fun e => by have := own_base h.own b e.symm; omega)).trans h.tb
  exact ⟨by simp [World.cell?, hbt], by simp [World.frozen?, hbt]⟩
theorem PMem.pushed {w0 W w2 : World} {b1 P : Nat} {ps : List ByteArray} {ns : List Int} {ts : ByteArray} {rv v' : Value} {x : Int} (h : PMem w0 W b1 P ps ns ts rv) (ho : w2.ownsRow (b1 + 1) 3 1 v' (ns.length + 1) (ns.map (Value.int .i64) ++ [.int .i64 x])) (hg : W.grownBy w2 rv.ownBlock) :
    PMem w0 (w2.setCell ⟨b1, 0, none⟩ v') b1 P ps (ns ++ [x]) ts v' := by
  have hb : Below b1 W (w2.setCell ⟨b1, 0, none⟩ v') := ((Below.refl b1 W).grown hg (Nat.le_of_lt (lt_of_block h.v.tb)) (fun k hk => by have := own_base h.v.own k hk; omega)).setCell (Nat.le_refl _) _
  have hlo : ∀ {a : Addr} {v : Value}, a.block < b1 → W.cell? a = some v → (w2.setCell ⟨b1, 0, none⟩ v').cell? a = some v := fun ha hc => (hb.cell ha).trans hc
  refine ⟨h.v.pushed ho hg, fun j p hp => hlo h.hp (h.p j p hp), ⟨(hb.block _ h.lt).trans h.r.rb⟩, h.b.trans (hb.mono (Nat.le_of_lt h.lt)), h.lt, h.hp⟩
end Go.Proofs.YtnbmdecehlljcaaGreatDoor
namespace Go.Proofs.YtnbmdecehlljcaaGreatDoor
open Go.Shelf Go.RowKit Go.Sort Go.Lib Go.Proofs.YtnbmdecehlljcaaGreatDoorW.PrintWords Go.Proofs.YtnbmdecehlljcaaGreatDoorW.PrintMore
set_option linter.unusedVariables false
set_option linter.unusedSimpArgs false
set_option maxRecDepth 100000 in
set_option maxHeartbeats 8000000 in
theorem Parse_plain (s : ByteArray) (hs : s.size < 4294967281) (w : World) (hT : VTabs w) (a t : List UInt8) (hc : cutOn 45 s.data.toList = (a, t, false)) (htag : tagB t = true) :
    Calls Tryz.prog 35 #[.string s] w (ParsePost (parseV s.data.toList) w) := by
  have hcl := cutOn_len 45 s.data.toList
  have hss := Lib.size_eq s
  rw [hc] at hcl
  simp only at hcl
  have htl : t.length ≤ 9223372036854775807 := by omega
  have hal : (⟨a.toArray⟩ : ByteArray).size = a.length := by simp [ByteArray.size]
  have HC := Aside0.mk (Cut_at s hs a t false hc)
  have HT := Aside0.mk hT
  have HG : Aside0 (∀ W, Calls Tryz.prog 39 #[.string ⟨t.toArray⟩] W fun e w' => e = .returned (.bool true) ∧ Below W.heap.size W w') := ⟨fun W => by have := tag_any ⟨t.toArray⟩ htl W; rw [show tagB (⟨t.toArray⟩ : ByteArray).data.toList = true from htag] at this; exact this⟩
  have H0 : RAt (w.alloc (.cells #[.slice none 0 0, .string ⟨#[]⟩] 24)) w.heap.size := ⟨heap_alloc_new _ _⟩
  have HS := Aside0.mk (fun W (h : VTabs W) => Split_at ⟨a.toArray⟩ (by omega) W h)
  have hpv : parseV s.data.toList = if 8 < (splitOn 46 a).length then none else match partsNums (splitOn 46 a) with | none => none | some ns => some (ns, t) := by
    unfold parseV
    rw [hc]
    rw [if_neg (by simp [htag])]
    try rfl
  obtain ⟨r, hr⟩ : ∃ r, r = parseV s.data.toList := ⟨_, rfl⟩
  rw [← hr] at hpv ⊢
  have HV := Aside0.mk hpv
  clear hT hpv htl hr
  go_enter Tryz.func35, Tryz.ntmps35
  go_wp2_with fail
  refine (HC.out _ (HT.out.below ((Below.refl _ _).alloc (Nat.le_refl _) _))).mono ?_
  rintro e w1 ⟨rfl, hb⟩
  have HB := Aside0.mk (((Below.refl _ w).alloc (Nat.le_refl _) _).trans (hb.mono (by simp)))
  have HR := Aside0.mk (H0.below hb)
  clear hb
  go_wp2_with fail
  refine (HG.out _).mono ?_
  rintro e w2 ⟨rfl, hb⟩
  replace HR := Aside0.mk (HR.out.below hb)
  replace HB := Aside0.mk (HB.out.trans (hb.mono HB.out.size))
  clear hb
  go_wp2_with fail
  obtain ⟨ps, hps, hsp⟩ := HS.out w2 (HT.out.below HB.out)
  refine hsp.mono ?_
  rintro e w3 ⟨rfl, hP, hlt, hb⟩
  have hw2 := HB.out.size
  replace HR := Aside0.mk (HR.out.below hb)
  replace HB := Aside0.mk (HB.out.trans (hb.mono HB.out.size))
  have HP := Aside0.mk hP
  clear hb hP hsp
  have hl : (splitOn 46 a).length = ps.length := by rw [← hps, List.length_map]
  rw [hl] at HV
  by_cases h8 : 8 < ps.length
  · have h8' : (8 : Int) < ps.length := by omega
    rw [if_pos h8] at HV
    obtain rfl := HV.out
    obtain ⟨x0, x1, x2, x3⟩ := HR.out.cells
    go_wp2_with fail
    (try simp only [Exit.inBlock, Exit.then]); refine bodyPost_ret (results_ct rfl _ _ w.heap.size _ #[.slice none 0 0, .string ⟨#[]⟩] (0, 0) _ rfl (HR.out.put _ _) Tryz.underlying24 rfl (by kernel_rfl)) rfl ?_
    exact ⟨.slice none 0 0, rfl, Kd.R_nil _ _ _ _ _, (HB.out.setCell (Nat.le_refl _) _).setCell (Nat.le_refl _) _⟩
  · have h8' : ¬ (8 : Int) < ps.length := by omega
    rw [if_neg h8] at HV
    go_wp2_with fail
    have hV0 : VAt (w3.alloc (.cells #[.slice none 0 0, .string ⟨t.toArray⟩] 24)) w3.heap.size [] ⟨t.toArray⟩ (.slice none 0 0) := ⟨heap_alloc_new _ _, own_nil _ _ _ _⟩
    have HW : Aside0 (PMem w (w3.alloc (.cells #[.slice none 0 0, .string ⟨t.toArray⟩] 24)) w3.heap.size w2.heap.size ps [] ⟨t.toArray⟩ (.slice none 0 0)) := ⟨hV0, HP.out.below ((Below.refl _ _).alloc (Nat.le_refl _) _), HR.out.below ((Below.refl _ _).alloc (Nat.le_refl _) _), HB.out.alloc HB.out.size _, by omega, hlt⟩
    have hlen : ∀ p ∈ ps, p.size ≤ a.length := fun p hp => by
      have := splitOn_len 46 a p.data.toList (by rw [← hps]; exact List.mem_map.2 ⟨p, hp, rfl⟩)
      have e := Lib.size_eq p
      omega
    have HLEN := Aside0.mk hlen
    have HPS := Aside0.mk hps
    clear hV0 hlen hps HP HR HB HS HG HC H0
    generalize hb1 : w3.heap.size = b1 at *
    generalize hP1 : w2.heap.size = P1 at *
    generalize hts : (⟨t.toArray⟩ : ByteArray) = ts at *
    go_loopg [39] ps.length (fun gg s39 wr => ∃ (k : Nat) (ns : List Int) (rv : Value), k ≤ ps.length ∧ ps.length - k ≤ gg ∧ s39 = .int .i64 k ∧ Aside0 (PMem w wr b1 P1 ps ns ts rv) ∧ Aside0 (ns.length = k) ∧ Aside0 (partsNums (splitOn 46 a) = (partsNums ((splitOn 46 a).drop k)).map (ns ++ ·)))
    case atStart => exact ⟨0, [], _, Nat.zero_le _, by omega, rfl, HW, ⟨rfl⟩, ⟨by rw [List.drop_zero]; cases partsNums (splitOn 46 a) <;> rfl⟩⟩
    case round =>
      clear HW
      obtain ⟨k, ns, rv, hk, hgk, rfl, HW, HN, HF⟩ := hrel
      by_cases hlt : k < ps.length
      · have hkz : (k : Int) < ps.length := by omega
        have hq := HW.out.p k ps[k] (List.getElem?_eq_getElem hlt)
        have hmem : ps[k] ∈ ps := List.getElem_mem hlt
        have hsz := HLEN.out _ hmem
        have hdrop : (splitOn 46 a).drop k = ps[k].data.toList :: (splitOn 46 a).drop (k + 1) := by
          rw [List.drop_eq_getElem_cons (by omega)]
          congr 1
          have := HPS.out
          simp [← this]
        have HD := Aside0.mk hdrop
        clear hdrop hmem
        generalize ps[k] = p at *
        have HQ := Aside0.mk (ParseUint31 p (by omega) wr (HT.out.below HW.out.b).es (HT.out.below HW.out.b).er)
        have hz : progNum p.data.toList = none → r = none := fun h => by rw [HV.out, HF.out, HD.out]; simp [partsNums, h]
        have hnx : ∀ u : Nat, progNum p.data.toList = some u → partsNums (splitOn 46 a) = (partsNums ((splitOn 46 a).drop (k + 1))).map ((ns ++ [(u : Int)]) ++ ·) := fun u h => by rw [HF.out, HD.out]; simp only [partsNums, h]; cases partsNums ((splitOn 46 a).drop (k + 1)) <;> simp
        have HNX := Aside0.mk hnx
        clear hnx
        go_wp2_with fail
        refine (HQ.out).mono ?_
        rintro e w4 ⟨hpu, hb⟩
        replace HW := Aside0.mk (HW.out.below hb)
        clear hq hb HQ
        rcases hpu with ⟨u, hu, rfl⟩ | ⟨hno, u, t', ad, rfl⟩
        · by_cases c1 : u ≤ 999999999
          · have c1' : ¬ (999999999 : Int) < (u : Int) := by omega
            have HQ := Aside0.mk (FormatUint10 u (by omega) w4 (HT.out.below HW.out.b).p10)
            go_wp2_with fail
            refine (HQ.out).mono ?_
            rintro e w5 ⟨rfl, hb⟩
            replace HW := Aside0.mk (HW.out.below hb)
            clear hb HQ
            by_cases c2 : decDigits u = p.data.toList
            · have hn := HNX.out u (by unfold progNum; rw [hu]; simp [c1, c2])
              have e2 : (⟨(decDigits u).toArray⟩ : ByteArray) = p := by rw [c2]
              rw [e2]
              obtain ⟨i0, hi, hz0, hz1, hz2⟩ := info_parts info_int
              obtain ⟨v0, v1⟩ := HW.out.v.cells
              have v2 := HW.out.v.free
              have hwu : IntKind.i64.wrap (u : Int) = u := IntWalk.i64_in _ (by omega)
              have hkl : ns.length ≤ 8 := by have := HN.out; omega
              have hHN := HN.out
              have hb5 := lt_of_block HW.out.v.tb
              have HWA : Aside0 (PMem w (w5.alloc (.cells #[.int .i64 (u : Int)] 3)) b1 P1 ps ns ts rv) := ⟨HW.out.below ((Below.refl _ _).alloc (Nat.le_refl _) _)⟩
              clear hz hu e2 c2
              go_wp2_with (at_builtin; refine wpList_append_own _ rfl _ _ 22 rfl (b1 + 1) 3 i0 (.int .i64 0) 1 8 Tryz.underlying22 hi hz0 hz1 hz2 rfl (by decide) _ _ _ rfl HWA.out.v.own ⟨w5.heap.size, 0, none⟩ 1 1 [.int .i64 u] rfl rfl ?c1 ?c2 ?c3 ?c4 ?c5 ?c6)
              case c1 => exact put_c1 _ _ _ _ rfl
              case c2 => intro u hu; rw [List.mem_singleton.1 hu]; rfl
              case c3 => unfold maxLen; omega
              case c4 => omega
              case c5 => simp; omega
              case c6 =>
                intro v' w6 hown2 hgrow2 hnil
                obtain ⟨g, cap, rfl⟩ := own_slice hown2
                have HP2 := Aside0.mk (PMem.pushed (v' := .slice (some ⟨g, 0, none⟩) (k + 1) cap) (x := (u : Int)) HWA.out (by rw [HN.out]; exact hown2) hgrow2)
                obtain ⟨g0, g1⟩ := VAt.grown HWA.out.v hgrow2
                clear hown2 hgrow2 hnil
                go_wp2
                go_roundg (ps.length - (k + 1))
                case measure => omega
                case rel => exact ⟨k + 1, ns ++ [(u : Int)], _, by omega, by omega, by go_num, HP2, ⟨by simp; omega⟩, ⟨hn⟩⟩
            · have HZ := Aside0.mk (hz (by unfold progNum; rw [hu]; simp [c2]))
              have e2 : ¬ (⟨(decDigits u).toArray⟩ : ByteArray) = p := fun h => c2 (by rw [← h])
              have e3 : ((⟨(decDigits u).toArray⟩ : ByteArray).toList == p.toList) = false := by
                cases hq : ((⟨(decDigits u).toArray⟩ : ByteArray).toList == p.toList) with
                | false => rfl
                | true => exact absurd (bytes_eq (by simpa using hq)) e2
              generalize (⟨(decDigits u).toArray⟩ : ByteArray) = q at *
              obtain ⟨x0, x1, x2, x3⟩ := HW.out.r.cells
              clear hz e2 c2
              go_wp2_with fail
              (try simp only [Exit.inBlock, Exit.then]); refine bodyPost_ret (results_ct rfl _ _ w.heap.size _ #[.slice none 0 0, .string ⟨#[]⟩] (0, 0) _ rfl (HW.out.r.put _ _) Tryz.underlying24 rfl (by kernel_rfl)) rfl ?_
              rw [HZ.out]
              exact ⟨.slice none 0 0, rfl, Kd.R_nil _ _ _ _ _, (HW.out.b.setCell (Nat.le_refl _) _).setCell (Nat.le_refl _) _⟩
          · have c1' : (999999999 : Int) < (u : Int) := by omega
            have HZ := Aside0.mk (hz (by unfold progNum; rw [hu]; simp [c1]))
            obtain ⟨x0, x1, x2, x3⟩ := HW.out.r.cells
            clear hz
            go_wp2_with fail
            (try simp only [Exit.inBlock, Exit.then]); refine bodyPost_ret (results_ct rfl _ _ w.heap.size _ #[.slice none 0 0, .string ⟨#[]⟩] (0, 0) _ rfl (HW.out.r.put _ _) Tryz.underlying24 rfl (by kernel_rfl)) rfl ?_
            rw [HZ.out]
            exact ⟨.slice none 0 0, rfl, Kd.R_nil _ _ _ _ _, (HW.out.b.setCell (Nat.le_refl _) _).setCell (Nat.le_refl _) _⟩
        · have HZ := Aside0.mk (hz (by unfold progNum; split; rename_i v hv; exact absurd hv (hno v); rfl))
          obtain ⟨x0, x1, x2, x3⟩ := HW.out.r.cells
          clear hz hno
          go_wp2_with fail
          (try simp only [Exit.inBlock, Exit.then]); refine bodyPost_ret (results_ct rfl _ _ w.heap.size _ #[.slice none 0 0, .string ⟨#[]⟩] (0, 0) _ rfl (HW.out.r.put _ _) Tryz.underlying24 rfl (by kernel_rfl)) rfl ?_
          rw [HZ.out]
          exact ⟨.slice none 0 0, rfl, Kd.R_nil _ _ _ _ _, (HW.out.b.setCell (Nat.le_refl _) _).setCell (Nat.le_refl _) _⟩
      · obtain rfl : k = ps.length := by omega
        clear hlt
        obtain ⟨c0, c1⟩ := HW.out.v.cells
        obtain ⟨x0, x1, x2, x3⟩ := HW.out.r.cells
        have hpos : 0 < ps.length := by
          rcases Nat.eq_zero_or_pos ps.length with h | h
          · rw [h] at hl
            exact absurd (List.eq_nil_of_length_eq_zero hl) (splitOn_ne 46 a)
          · exact h
        have hrd := HW.out.v
        obtain ⟨g, cap, rfl⟩ : ∃ g cap, rv = .slice (some ⟨g, 0, none⟩) ns.length cap := by
          obtain ⟨n', hn'⟩ : ∃ n', ns.length = n' + 1 := ⟨ns.length - 1, by have := HN.out; omega⟩
          rw [hn']
          exact own_slice (by have := hrd.own; rw [hn'] at this; exact this)
        have HRD := Aside0.mk hrd
        have hrs : r = some (ns, t) := by
          have h1 := HV.out
          have h2 := HF.out
          rw [h1, h2, List.drop_eq_nil_of_le (by omega)]
          simp [partsNums]
        clear hrd hl
        go_wp2_with fail
        (try simp only [Exit.inBlock, Exit.then]); refine bodyPost_ret (results_ct rfl _ _ w.heap.size _ #[.slice (some ⟨g, 0, none⟩) ns.length cap, .string ts] (0, 0) _ rfl (HW.out.r.put _ _) Tryz.underlying24 rfl (by kernel_rfl)) rfl ?_
        subst hts
        rw [hrs]
        have hlt := HW.out.lt
        exact ⟨_, rfl, VAt.row HRD.out (Nat.le_of_lt hlt) ⟨w.heap.size, 0, none⟩ ⟨w.heap.size, 1, none⟩ hlt hlt _ _, (HW.out.b.setCell (Nat.le_refl _) _).setCell (Nat.le_refl _) _⟩
end Go.Proofs.YtnbmdecehlljcaaGreatDoor
namespace Go.Proofs.YtnbmdecehlljcaaGreatDoor
open Go.Shelf Go.RowKit Go.Sort Go.Lib Go.Proofs.YtnbmdecehlljcaaGreatDoorW.PrintWords Go.Proofs.YtnbmdecehlljcaaGreatDoorW.PrintMore
set_option linter.unusedVariables false
set_option linter.unusedSimpArgs false
set_option maxRecDepth 100000 in
set_option maxHeartbeats 8000000 in
theorem Parse_tag (s : ByteArray) (hs : s.size < 4294967281) (w : World) (hT : VTabs w) (a t : List UInt8) (hc : cutOn 45 s.data.toList = (a, t, true)) (hte : t.isEmpty = false) (htag : tagB t = true) :
    Calls Tryz.prog 35 #[.string s] w (ParsePost (parseV s.data.toList) w) := by
  have hcl := cutOn_len 45 s.data.toList
  have hss := Lib.size_eq s
  rw [hc] at hcl
  simp only at hcl
  have htl : t.length ≤ 9223372036854775807 := by omega
  have hal : (⟨a.toArray⟩ : ByteArray).size = a.length := by simp [ByteArray.size]
  have HC := Aside0.mk (Cut_at s hs a t true hc)
  have HT := Aside0.mk hT
  have HG : Aside0 (∀ W, Calls Tryz.prog 39 #[.string ⟨t.toArray⟩] W fun e w' => e = .returned (.bool true) ∧ Below W.heap.size W w') := ⟨fun W => by have := tag_any ⟨t.toArray⟩ htl W; rw [show tagB (⟨t.toArray⟩ : ByteArray).data.toList = true from htag] at this; exact this⟩
  have H0 : RAt (w.alloc (.cells #[.slice none 0 0, .string ⟨#[]⟩] 24)) w.heap.size := ⟨heap_alloc_new _ _⟩
  have HS := Aside0.mk (fun W (h : VTabs W) => Split_at ⟨a.toArray⟩ (by omega) W h)
  have hpv : parseV s.data.toList = if 8 < (splitOn 46 a).length then none else match partsNums (splitOn 46 a) with | none => none | some ns => some (ns, t) := by
    unfold parseV
    rw [hc]
    rw [if_neg (by simp [htag, hte])]
    try rfl
  obtain ⟨r, hr⟩ : ∃ r, r = parseV s.data.toList := ⟨_, rfl⟩
  rw [← hr] at hpv ⊢
  have HV := Aside0.mk hpv
  clear hT hpv htl hr
  go_enter Tryz.func35, Tryz.ntmps35
  go_wp2_with fail
  refine (HC.out _ (HT.out.below ((Below.refl _ _).alloc (Nat.le_refl _) _))).mono ?_
  rintro e w1 ⟨rfl, hb⟩
  have HB := Aside0.mk (((Below.refl _ w).alloc (Nat.le_refl _) _).trans (hb.mono (by simp)))
  have HR := Aside0.mk (H0.below hb)
  clear hb
  go_wp2_with fail
  refine (HG.out _).mono ?_
  rintro e w2 ⟨rfl, hb⟩
  replace HR := Aside0.mk (HR.out.below hb)
  replace HB := Aside0.mk (HB.out.trans (hb.mono HB.out.size))
  clear hb
  go_wp2_with fail
  obtain ⟨ps, hps, hsp⟩ := HS.out w2 (HT.out.below HB.out)
  refine hsp.mono ?_
  rintro e w3 ⟨rfl, hP, hlt, hb⟩
  have hw2 := HB.out.size
  replace HR := Aside0.mk (HR.out.below hb)
  replace HB := Aside0.mk (HB.out.trans (hb.mono HB.out.size))
  have HP := Aside0.mk hP
  clear hb hP hsp
  have hl : (splitOn 46 a).length = ps.length := by rw [← hps, List.length_map]
  rw [hl] at HV
  by_cases h8 : 8 < ps.length
  · have h8' : (8 : Int) < ps.length := by omega
    rw [if_pos h8] at HV
    obtain rfl := HV.out
    obtain ⟨x0, x1, x2, x3⟩ := HR.out.cells
    go_wp2_with fail
    (try simp only [Exit.inBlock, Exit.then]); refine bodyPost_ret (results_ct rfl _ _ w.heap.size _ #[.slice none 0 0, .string ⟨#[]⟩] (0, 0) _ rfl (HR.out.put _ _) Tryz.underlying24 rfl (by kernel_rfl)) rfl ?_
    exact ⟨.slice none 0 0, rfl, Kd.R_nil _ _ _ _ _, (HB.out.setCell (Nat.le_refl _) _).setCell (Nat.le_refl _) _⟩
  · have h8' : ¬ (8 : Int) < ps.length := by omega
    rw [if_neg h8] at HV
    go_wp2_with fail
    have hV0 : VAt (w3.alloc (.cells #[.slice none 0 0, .string ⟨t.toArray⟩] 24)) w3.heap.size [] ⟨t.toArray⟩ (.slice none 0 0) := ⟨heap_alloc_new _ _, own_nil _ _ _ _⟩
    have HW : Aside0 (PMem w (w3.alloc (.cells #[.slice none 0 0, .string ⟨t.toArray⟩] 24)) w3.heap.size w2.heap.size ps [] ⟨t.toArray⟩ (.slice none 0 0)) := ⟨hV0, HP.out.below ((Below.refl _ _).alloc (Nat.le_refl _) _), HR.out.below ((Below.refl _ _).alloc (Nat.le_refl _) _), HB.out.alloc HB.out.size _, by omega, hlt⟩
    have hlen : ∀ p ∈ ps, p.size ≤ a.length := fun p hp => by
      have := splitOn_len 46 a p.data.toList (by rw [← hps]; exact List.mem_map.2 ⟨p, hp, rfl⟩)
      have e := Lib.size_eq p
      omega
    have HLEN := Aside0.mk hlen
    have HPS := Aside0.mk hps
    clear hV0 hlen hps HP HR HB HS HG HC H0
    generalize hb1 : w3.heap.size = b1 at *
    generalize hP1 : w2.heap.size = P1 at *
    generalize hts : (⟨t.toArray⟩ : ByteArray) = ts at *
    go_loopg [39] ps.length (fun gg s39 wr => ∃ (k : Nat) (ns : List Int) (rv : Value), k ≤ ps.length ∧ ps.length - k ≤ gg ∧ s39 = .int .i64 k ∧ Aside0 (PMem w wr b1 P1 ps ns ts rv) ∧ Aside0 (ns.length = k) ∧ Aside0 (partsNums (splitOn 46 a) = (partsNums ((splitOn 46 a).drop k)).map (ns ++ ·)))
    case atStart => exact ⟨0, [], _, Nat.zero_le _, by omega, rfl, HW, ⟨rfl⟩, ⟨by rw [List.drop_zero]; cases partsNums (splitOn 46 a) <;> rfl⟩⟩
    case round =>
      clear HW
      obtain ⟨k, ns, rv, hk, hgk, rfl, HW, HN, HF⟩ := hrel
      by_cases hlt : k < ps.length
      · have hkz : (k : Int) < ps.length := by omega
        have hq := HW.out.p k ps[k] (List.getElem?_eq_getElem hlt)
        have hmem : ps[k] ∈ ps := List.getElem_mem hlt
        have hsz := HLEN.out _ hmem
        have hdrop : (splitOn 46 a).drop k = ps[k].data.toList :: (splitOn 46 a).drop (k + 1) := by
          rw [List.drop_eq_getElem_cons (by omega)]
          congr 1
          have := HPS.out
          simp [← this]
        have HD := Aside0.mk hdrop
        clear hdrop hmem
        generalize ps[k] = p at *
        have HQ := Aside0.mk (ParseUint31 p (by omega) wr (HT.out.below HW.out.b).es (HT.out.below HW.out.b).er)
        have hz : progNum p.data.toList = none → r = none := fun h => by rw [HV.out, HF.out, HD.out]; simp [partsNums, h]
        have hnx : ∀ u : Nat, progNum p.data.toList = some u → partsNums (splitOn 46 a) = (partsNums ((splitOn 46 a).drop (k + 1))).map ((ns ++ [(u : Int)]) ++ ·) := fun u h => by rw [HF.out, HD.out]; simp only [partsNums, h]; cases partsNums ((splitOn 46 a).drop (k + 1)) <;> simp
        have HNX := Aside0.mk hnx
        clear hnx
        go_wp2_with fail
        refine (HQ.out).mono ?_
        rintro e w4 ⟨hpu, hb⟩
        replace HW := Aside0.mk (HW.out.below hb)
        clear hq hb HQ
        rcases hpu with ⟨u, hu, rfl⟩ | ⟨hno, u, t', ad, rfl⟩
        · by_cases c1 : u ≤ 999999999
          · have c1' : ¬ (999999999 : Int) < (u : Int) := by omega
            have HQ := Aside0.mk (FormatUint10 u (by omega) w4 (HT.out.below HW.out.b).p10)
            go_wp2_with fail
            refine (HQ.out).mono ?_
            rintro e w5 ⟨rfl, hb⟩
            replace HW := Aside0.mk (HW.out.below hb)
            clear hb HQ
            by_cases c2 : decDigits u = p.data.toList
            · have hn := HNX.out u (by unfold progNum; rw [hu]; simp [c1, c2])
              have e2 : (⟨(decDigits u).toArray⟩ : ByteArray) = p := by rw [c2]
              rw [e2]
              obtain ⟨i0, hi, hz0, hz1, hz2⟩ := info_parts info_int
              obtain ⟨v0, v1⟩ := HW.out.v.cells
              have v2 := HW.out.v.free
              have hwu : IntKind.i64.wrap (u : Int) = u := IntWalk.i64_in _ (by omega)
              have hkl : ns.length ≤ 8 := by have := HN.out; omega
              have hHN := HN.out
              have hb5 := lt_of_block HW.out.v.tb
              have HWA : Aside0 (PMem w (w5.alloc (.cells #[.int .i64 (u : Int)] 3)) b1 P1 ps ns ts rv) := ⟨HW.out.below ((Below.refl _ _).alloc (Nat.le_refl _) _)⟩
              clear hz hu e2 c2
              go_wp2_with (at_builtin; refine wpList_append_own _ rfl _ _ 22 rfl (b1 + 1) 3 i0 (.int .i64 0) 1 8 Tryz.underlying22 hi hz0 hz1 hz2 rfl (by decide) _ _ _ rfl HWA.out.v.own ⟨w5.heap.size, 0, none⟩ 1 1 [.int .i64 u] rfl rfl ?c1 ?c2 ?c3 ?c4 ?c5 ?c6)
              case c1 => exact put_c1 _ _ _ _ rfl
              case c2 => intro u hu; rw [List.mem_singleton.1 hu]; rfl
              case c3 => unfold maxLen; omega
              case c4 => omega
              case c5 => simp; omega
              case c6 =>
                intro v' w6 hown2 hgrow2 hnil
                obtain ⟨g, cap, rfl⟩ := own_slice hown2
                have HP2 := Aside0.mk (PMem.pushed (v' := .slice (some ⟨g, 0, none⟩) (k + 1) cap) (x := (u : Int)) HWA.out (by rw [HN.out]; exact hown2) hgrow2)
                obtain ⟨g0, g1⟩ := VAt.grown HWA.out.v hgrow2
                clear hown2 hgrow2 hnil
                go_wp2
                go_roundg (ps.length - (k + 1))
                case measure => omega
                case rel => exact ⟨k + 1, ns ++ [(u : Int)], _, by omega, by omega, by go_num, HP2, ⟨by simp; omega⟩, ⟨hn⟩⟩
            · have HZ := Aside0.mk (hz (by unfold progNum; rw [hu]; simp [c2]))
              have e2 : ¬ (⟨(decDigits u).toArray⟩ : ByteArray) = p := fun h => c2 (by rw [← h])
              have e3 : ((⟨(decDigits u).toArray⟩ : ByteArray).toList == p.toList) = false := by
                cases hq : ((⟨(decDigits u).toArray⟩ : ByteArray).toList == p.toList) with
                | false => rfl
                | true => exact absurd (bytes_eq (by simpa using hq)) e2
              generalize (⟨(decDigits u).toArray⟩ : ByteArray) = q at *
              obtain ⟨x0, x1, x2, x3⟩ := HW.out.r.cells
              clear hz e2 c2
              go_wp2_with fail
              (try simp only [Exit.inBlock, Exit.then]); refine bodyPost_ret (results_ct rfl _ _ w.heap.size _ #[.slice none 0 0, .string ⟨#[]⟩] (0, 0) _ rfl (HW.out.r.put _ _) Tryz.underlying24 rfl (by kernel_rfl)) rfl ?_
              rw [HZ.out]
              exact ⟨.slice none 0 0, rfl, Kd.R_nil _ _ _ _ _, (HW.out.b.setCell (Nat.le_refl _) _).setCell (Nat.le_refl _) _⟩
          · have c1' : (999999999 : Int) < (u : Int) := by omega
            have HZ := Aside0.mk (hz (by unfold progNum; rw [hu]; simp [c1]))
            obtain ⟨x0, x1, x2, x3⟩ := HW.out.r.cells
            clear hz
            go_wp2_with fail
            (try simp only [Exit.inBlock, Exit.then]); refine bodyPost_ret (results_ct rfl _ _ w.heap.size _ #[.slice none 0 0, .string ⟨#[]⟩] (0, 0) _ rfl (HW.out.r.put _ _) Tryz.underlying24 rfl (by kernel_rfl)) rfl ?_
            rw [HZ.out]
            exact ⟨.slice none 0 0, rfl, Kd.R_nil _ _ _ _ _, (HW.out.b.setCell (Nat.le_refl _) _).setCell (Nat.le_refl _) _⟩
        · have HZ := Aside0.mk (hz (by unfold progNum; split; rename_i v hv; exact absurd hv (hno v); rfl))
          obtain ⟨x0, x1, x2, x3⟩ := HW.out.r.cells
          clear hz hno
          go_wp2_with fail
          (try simp only [Exit.inBlock, Exit.then]); refine bodyPost_ret (results_ct rfl _ _ w.heap.size _ #[.slice none 0 0, .string ⟨#[]⟩] (0, 0) _ rfl (HW.out.r.put _ _) Tryz.underlying24 rfl (by kernel_rfl)) rfl ?_
          rw [HZ.out]
          exact ⟨.slice none 0 0, rfl, Kd.R_nil _ _ _ _ _, (HW.out.b.setCell (Nat.le_refl _) _).setCell (Nat.le_refl _) _⟩
      · obtain rfl : k = ps.length := by omega
        clear hlt
        obtain ⟨c0, c1⟩ := HW.out.v.cells
        obtain ⟨x0, x1, x2, x3⟩ := HW.out.r.cells
        have hpos : 0 < ps.length := by
          rcases Nat.eq_zero_or_pos ps.length with h | h
          · rw [h] at hl
            exact absurd (List.eq_nil_of_length_eq_zero hl) (splitOn_ne 46 a)
          · exact h
        have hrd := HW.out.v
        obtain ⟨g, cap, rfl⟩ : ∃ g cap, rv = .slice (some ⟨g, 0, none⟩) ns.length cap := by
          obtain ⟨n', hn'⟩ : ∃ n', ns.length = n' + 1 := ⟨ns.length - 1, by have := HN.out; omega⟩
          rw [hn']
          exact own_slice (by have := hrd.own; rw [hn'] at this; exact this)
        have HRD := Aside0.mk hrd
        have hrs : r = some (ns, t) := by
          have h1 := HV.out
          have h2 := HF.out
          rw [h1, h2, List.drop_eq_nil_of_le (by omega)]
          simp [partsNums]
        clear hrd hl
        go_wp2_with fail
        (try simp only [Exit.inBlock, Exit.then]); refine bodyPost_ret (results_ct rfl _ _ w.heap.size _ #[.slice (some ⟨g, 0, none⟩) ns.length cap, .string ts] (0, 0) _ rfl (HW.out.r.put _ _) Tryz.underlying24 rfl (by kernel_rfl)) rfl ?_
        subst hts
        rw [hrs]
        have hlt := HW.out.lt
        exact ⟨_, rfl, VAt.row HRD.out (Nat.le_of_lt hlt) ⟨w.heap.size, 0, none⟩ ⟨w.heap.size, 1, none⟩ hlt hlt _ _, (HW.out.b.setCell (Nat.le_refl _) _).setCell (Nat.le_refl _) _⟩
end Go.Proofs.YtnbmdecehlljcaaGreatDoor
namespace Go.Proofs.YtnbmdecehlljcaaGreatDoor
open Go.Shelf Go.RowKit Go.Sort Go.Lib Go.Proofs.YtnbmdecehlljcaaGreatDoorW.PrintWords Go.Proofs.YtnbmdecehlljcaaGreatDoorW.PrintMore
set_option linter.unusedVariables false
theorem Parse_any (s : ByteArray) (hs : s.size < 4294967281) (w : World) (hT : VTabs w) :
    Calls Tryz.prog 35 #[.string s] w (ParsePost (parseV s.data.toList) w) := by
  obtain ⟨⟨a, t, f⟩, hc⟩ : ∃ q, cutOn 45 s.data.toList = q := ⟨_, rfl⟩
  by_cases hbad : (f && t.isEmpty || !tagB t) = true
  · have hp : parseV s.data.toList = none := by
      unfold parseV
      rw [hc, if_pos hbad]
    rw [hp]
    refine (Parse_cut s hs w hT a t f hc hbad).mono fun e w' h => ?_
    exact ⟨.slice none 0 0, h.1, Kd.R_nil _ _ _ _ _, h.2⟩
  · simp only [Bool.or_eq_true, Bool.and_eq_true, not_or, Bool.not_eq_true'] at hbad
    have htag : tagB t = true := by simpa using hbad.2
    cases f with
    | false => exact Parse_plain s hs w hT a t hc htag
    | true => exact Parse_tag s hs w hT a t hc (by cases t with | nil => exact absurd ⟨rfl, rfl⟩ hbad.1 | cons => rfl) htag
theorem version_Parse.calls (a0 : ByteArray) (r1 : List Int) (r2 : ByteArray) (r3 : Int) (w : World) (hT : VTabs w) (h : version_Parse.f a0 = some (r1, r2, r3)) :
    Calls Tryz.prog 35 #[.string a0] w fun e w' => ∃ v0_ : Value, e = .returned (.tuple #[.agg #[v0_, .string r2], .int .i64 r3]) ∧ Kd.R (Kd.int .i64) 3 w' w.heap.size (fun _ => True) v0_ r1 ∧ Below w.heap.size w w' := by
  unfold version_Parse.f at h
  split at h
  · rename_i hs
    simp only [Option.some.injEq, Prod.mk.injEq] at h
    obtain ⟨rfl, rfl, rfl⟩ := h
    exact Parse_any a0 hs w hT
  · cases h
end Go.Proofs.YtnbmdecehlljcaaGreatDoor
namespace Go.Proofs.YtnbmdecehlljcaaGreatDoor
open Go.Shelf Go.RowKit Go.Sort Go.Lib Go.Proofs.YtnbmdecehlljcaaGreatDoorW.PrintWords Go.Proofs.YtnbmdecehlljcaaGreatDoorW.PrintMore
set_option linter.unusedVariables false
set_option linter.unusedSimpArgs false
end Go.Proofs.YtnbmdecehlljcaaGreatDoor
namespace Go.Proofs.YtnbmdecehlljcaaGreatDoor
open Go.Shelf Go.RowKit Go.Sort Go.Lib Go.Proofs.YtnbmdecehlljcaaGreatDoorW.PrintWords Go.Proofs.YtnbmdecehlljcaaGreatDoorW.PrintMore
set_option linter.unusedVariables false
set_option linter.unusedSimpArgs false
theorem addr_plainV {w : World} {a : Addr} {v : Value} (h : w.cell? a = some v) : a = ⟨a.block, a.off, none⟩ := by
  obtain ⟨b, o, s⟩ := a
  cases s with
  | none => rfl
  | some s => unfold World.cell? at h; split at h <;> simp at h
theorem C_cells {α : Type} {enc : α → Value} {h1 : ∀ x, (enc x).oneCell' = true} {w : World} {A : Option Addr} {xs : List α} (h : (Kd.scalar enc h1).C w A xs.length xs) (hn : 0 < xs.length) :
    ∃ b o, A = some ⟨b, o, none⟩ ∧ (∀ j x, xs[j]? = some x → w.cell? ⟨b, o + j, none⟩ = some (enc x)) ∧ b < w.heap.size := by
  obtain ⟨_, _, hc⟩ := h
  obtain ⟨ad, rfl, hc2⟩ := hc hn
  have key : ∀ j x, xs[j]? = some x → w.cell? (ad.add j) = some (enc x) := by
    intro j x hx
    obtain ⟨c, _, hK, hcell⟩ := hc2 j x hx
    have hK : c = [enc x] := hK
    subst hK
    have := hcell 0 (enc x) rfl
    have e : j * (Kd.scalar enc h1).sz + 0 = j := by show j * 1 + 0 = j; omega
    rw [e] at this
    exact this
  obtain ⟨x0, hx0⟩ : ∃ x, xs[0]? = some x := ⟨xs[0], List.getElem?_eq_getElem hn⟩
  have k0 := key 0 x0 hx0
  have hp := addr_plainV k0
  obtain ⟨b, o, s⟩ := ad
  have hs : s = none := by
    cases s with
    | none => rfl
    | some s => simp [Addr.add] at hp
  subst hs
  refine ⟨b, o, rfl, fun j x hx => ?_, ?_⟩
  · have := key j x hx
    rwa [Addr.add_lit] at this
  · have := lt_of_cell k0
    rwa [Addr.add_lit] at this
def strings_Join.f (l0 : List ByteArray) (a1 : ByteArray) : Option ByteArray := if l0.length ≤ 140737488355328 ∧ (Lib.join (l0.map (·.data.toList)) a1.data.toList).length ≤ 140737488355328 then some ⟨(Lib.join (l0.map (·.data.toList)) a1.data.toList).toArray⟩ else none
theorem strings_Join.calls (A0 : Option Addr) (c0 : Nat) (l0 : List ByteArray) (a1 : ByteArray) (r : ByteArray) (w : World) (hr0 : Kd.C Kd.string w A0 l0.length l0) (hc0 : l0.length ≤ c0) (h : strings_Join.f l0 a1 = some r) : Calls Tryz.prog 41 #[.slice A0 l0.length c0, .string a1] w fun e w' => e = .returned (.string r) ∧ Below w.heap.size w w' := by
  unfold strings_Join.f at h
  split at h
  · rename_i hh
    cases h
    by_cases hn : 0 < l0.length
    · obtain ⟨b, o, rfl, hc, hb⟩ := C_cells hr0 hn
      exact Tryz.strings_Join b o c0 l0 a1 w hc hb hh.1 hc0 hh.2
    · have : l0 = [] := List.length_eq_zero_iff.1 (by omega)
      subst this
      refine (Tryz.strings_Join_none A0 c0 a1 w).mono fun e w' ⟨h1, h2⟩ => ⟨h1, ?_⟩
      rw [h2]
      exact Below.refl _ _
  · cases h
end Go.Proofs.YtnbmdecehlljcaaGreatDoor
