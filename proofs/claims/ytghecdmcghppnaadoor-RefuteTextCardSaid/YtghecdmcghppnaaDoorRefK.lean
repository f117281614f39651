/- Plain: rows and their texts, there and back. No program. -/
import Derived.Test.YtghecdmcghppnaaDoorRefE
namespace Go.Proofs.YtghecdmcghppnaaDoor
open Go.RowKit
set_option linter.unusedVariables false
set_option linter.unusedSimpArgs false
open Go.Lib (decDigits nDigits)
def isD (b : UInt8) : Bool := decide (48 ≤ b.toNat) && decide (b.toNat ≤ 57)
theorem isD_iff {b : UInt8} : isD b = true ↔ 48 ≤ b.toNat ∧ b.toNat ≤ 57 := by unfold isD; rw [Bool.and_eq_true, decide_eq_true_eq, decide_eq_true_eq]
def foldD (acc : Nat) : List UInt8 → Nat
  | [] => acc
  | c :: r => foldD (acc * 10 + (c.toNat - 48)) r
theorem foldD_snoc : ∀ (l : List UInt8) (acc : Nat) (b : UInt8), foldD acc (l ++ [b]) = foldD acc l * 10 + (b.toNat - 48)
  | [], _, _ => rfl
  | c :: r, acc, b => foldD_snoc r _ b
theorem foldD_ge : ∀ (l : List UInt8) (acc : Nat), acc ≤ foldD acc l
  | [], _ => Nat.le_refl _
  | c :: r, acc => by
    have := foldD_ge r (acc * 10 + (c.toNat - 48))
    show acc ≤ foldD (acc * 10 + (c.toNat - 48)) r
    omega
theorem dig_of {d : Nat} (h : d < 10) : (UInt8.ofNat (48 + d)).toNat = 48 + d := by
  rw [UInt8.toNat_ofNat']
  omega
theorem dec_one {u : Nat} (h : u < 10) (b : UInt8) (hb : b.toNat = 48 + u) : [b].all isD = true ∧ foldD 0 [b] = u ∧ (∃ c r, [b] = c :: r ∧ (1 ≤ u → c.toNat ≠ 48)) := by
  have h1 : isD b = true := isD_iff.2 (by omega)
  have h2 : foldD 0 [b] = 0 * 10 + (b.toNat - 48) := rfl
  exact ⟨by rw [List.all_cons, h1]; rfl, by rw [h2]; omega, b, [], rfl, fun h1 => by omega⟩
theorem dec_more {u : Nat} {l : List UInt8} (h : ¬ u < 10) (h1 : l.all isD = true) (h2 : foldD 0 l = u / 10) (h3 : ∃ c r, l = c :: r ∧ (1 ≤ u / 10 → c.toNat ≠ 48)) (b : UInt8) (hb : b.toNat = 48 + u % 10) :
    (l ++ [b]).all isD = true ∧ foldD 0 (l ++ [b]) = u ∧ (∃ c r, l ++ [b] = c :: r ∧ (1 ≤ u → c.toNat ≠ 48)) := by
  obtain ⟨c, r, rfl, h4⟩ := h3
  refine ⟨by rw [List.all_append, h1, List.all_cons, isD_iff.2 (by omega)]; rfl, by rw [foldD_snoc, h2, hb]; omega, c, r ++ [b], rfl, fun _ => h4 (by omega)⟩
theorem dec_facts (u : Nat) : (decDigits u).all isD = true ∧ foldD 0 (decDigits u) = u ∧ (∃ c r, decDigits u = c :: r ∧ (1 ≤ u → c.toNat ≠ 48)) := by
  induction u using Nat.strongRecOn with
  | _ u ih =>
    by_cases h : u < 10
    · rw [Lib.decDigits_one h]
      exact dec_one h _ (dig_of h)
    · rw [decDigits, dif_neg h]
      obtain ⟨h1, h2, h3⟩ := ih (u / 10) (by omega)
      exact dec_more h h1 h2 h3 _ (dig_of (d := u % 10) (by omega))
theorem nDig_le : ∀ (k u : Nat), u < 10 ^ (k + 1) → nDigits u ≤ k + 1
  | 0, u, h => by rw [Lib.nDigits_small (by simpa using h)]; omega
  | k + 1, u, h => by
    by_cases hu : u < 10
    · rw [Lib.nDigits_small hu]; omega
    · rw [Lib.nDigits_big hu]
      have := nDig_le k (u / 10) (by rw [Nat.pow_succ] at h; omega)
      omega
theorem dec_len6 {u : Nat} (h : u ≤ 100000) : (decDigits u).length ≤ 6 := by
  rw [Lib.decDigits_length]
  exact nDig_le 5 u (by omega)
theorem parse_fold : ∀ (l : List UInt8) (acc : Nat), l.all isD = true → foldD acc l ≤ 1000000 → Lib.parseUint10 acc l = .ok (foldD acc l)
  | [], _, _, _ => rfl
  | c :: r, acc, h, hb => by
    simp only [List.all_cons, Bool.and_eq_true] at h
    have h1 : 48 ≤ c.toNat ∧ c.toNat ≤ 57 := by simpa [isD] using h.1
    have h2 := foldD_ge r (acc * 10 + (c.toNat - 48))
    have hb' : foldD (acc * 10 + (c.toNat - 48)) r ≤ 1000000 := hb
    unfold Lib.parseUint10
    rw [if_pos h1, if_neg (by omega), if_neg (by omega), parse_fold r _ h.2 hb']
    rfl
theorem mag_dec {u : Nat} (h : u ≤ 100000) : Lib.parseMag (decDigits u) = .ok u := by
  obtain ⟨h1, h2, c, r, h3, h4⟩ := dec_facts u
  unfold Lib.parseMag
  rw [if_neg (by rw [h3]; simp), parse_fold _ _ h1 (by rw [h2]; omega), h2]
theorem atoi_itoa {x : Int} (h : litR x = true) : Lib.atoiAll (Lib.itoa x) = .ok x := by
  have hx := litR_iff.1 h
  unfold Lib.itoa
  split
  · rename_i hn
    unfold Lib.atoiAll
    simp only
    rw [if_pos (by decide), mag_dec (by omega)]
    simp only
    rw [if_neg (by simp), if_neg (by omega), if_pos (by decide)]
    congr 1
    omega
  · rename_i hn
    obtain ⟨h1, h2, c, r, h3, h4⟩ := dec_facts x.toNat
    have hm := mag_dec (u := x.toNat) (by omega)
    rw [h3] at hm h1 ⊢
    have hc : 48 ≤ c.toNat ∧ c.toNat ≤ 57 := by
      simp only [List.all_cons, Bool.and_eq_true] at h1
      simpa [isD] using h1.1
    unfold Lib.atoiAll
    simp only
    rw [if_neg (by omega), hm]
    simp only
    rw [if_neg (by omega), if_neg (by omega), if_neg (by omega)]
    congr 1
    omega
theorem itoa_no {x : Int} (c : UInt8) (h1 : isD c = false) (h2 : c ≠ 45) : c ∉ Lib.itoa x := by
  intro hm
  unfold Lib.itoa at hm
  have key : ∀ u, c ∉ decDigits u := fun u hu => by
    have := List.all_eq_true.1 (dec_facts u).1 c hu
    rw [this] at h1
    cases h1
  split at hm
  · rcases List.mem_cons.1 hm with h | h
    · exact h2 h
    · exact key _ h
  · exact key _ hm
/-- A word read: the literal whose numeral it is. -/
def wordX (w : List UInt8) : Option Int := match Lib.atoiAll w with
  | .ok x => if litR x = true ∧ Lib.itoa x = w then some x else none
  | _ => none
theorem wordX_iff {w : List UInt8} {x : Int} : wordX w = some x ↔ litR x = true ∧ Lib.itoa x = w := by
  unfold wordX
  constructor
  · intro h
    split at h
    · split at h
      · rename_i hh
        cases h
        exact hh
      · cases h
    · cases h
  · rintro ⟨h1, rfl⟩
    rw [atoi_itoa h1]
    simp [h1]
theorem suffix_mk (a b : List UInt8) : Lib.hasSuffix (a ++ b) b = true ∧ Lib.trimSuffix (a ++ b) b = a := by
  have h : Lib.hasSuffix (a ++ b) b = true := by unfold Lib.hasSuffix; exact List.isSuffixOf_iff_suffix.2 ⟨a, rfl⟩
  refine ⟨h, ?_⟩
  unfold Lib.trimSuffix
  rw [if_pos h, List.length_append, Nat.add_sub_cancel, List.take_left]
theorem suffix_of {l b : List UInt8} (h : Lib.hasSuffix l b = true) : l = Lib.trimSuffix l b ++ b := by
  have h' : Lib.hasSuffix l b = true := h
  unfold Lib.hasSuffix at h'
  obtain ⟨a, rfl⟩ := List.isSuffixOf_iff_suffix.1 h'
  rw [(suffix_mk a b).2]
theorem litW_lit {x : Int} (h : litR x = true) : litW (litT x) = some x := by
  unfold litW litT
  rw [if_pos (suffix_mk _ _).1, (suffix_mk _ _).2, atoi_itoa h]
  simp [h]
theorem litW_some {l : List UInt8} {x : Int} (h : litW l = some x) : litR x = true ∧ litT x = l := by
  unfold litW at h
  split at h
  · rename_i hs
    split at h
    · split at h
      · rename_i hh
        cases h
        refine ⟨hh.1, ?_⟩
        unfold litT
        rw [hh.2]
        exact (suffix_of hs).symm
      · cases h
    · cases h
  · cases h
theorem after_join (c : UInt8) : ∀ l : List UInt8, (afterOn c l).flatten = l
  | [] => rfl
  | b :: t => by
    have ih := after_join c t
    unfold afterOn
    split
    · simp [ih]
    · split
      · rename_i p r e
        rw [e] at ih
        simpa using ih
      · rename_i e
        rw [e] at ih
        simp at ih
        simp [← ih]
theorem lines_join : ∀ l : List UInt8, (linesOn l).flatten = l
  | [] => rfl
  | b :: t => by
    have ih := lines_join t
    unfold linesOn
    split
    · simp [ih]
    · split
      · rename_i p r e
        rw [e] at ih
        simpa using ih
      · rename_i e
        rw [e] at ih
        simp at ih
        simp [← ih]
theorem after_cons (c : UInt8) : ∀ (p t : List UInt8), c ∉ p → afterOn c (p ++ c :: t) = (p ++ [c]) :: afterOn c t
  | [], t, _ => by simp [afterOn]
  | b :: p, t, h => by
    have hb : b ≠ c := fun e => h (by simp [e])
    have ih := after_cons c p t (fun hm => h (by simp [hm]))
    simp [afterOn, hb, ih]
theorem lines_cons : ∀ (p t : List UInt8), (10 : UInt8) ∉ p → linesOn (p ++ 10 :: t) = (p ++ [10]) :: linesOn t
  | [], t, _ => by simp [linesOn]
  | b :: p, t, h => by
    have hb : b ≠ 10 := fun e => h (by simp [e])
    have ih := lines_cons p t (fun hm => h (by simp [hm]))
    simp [linesOn, hb, ih]
theorem lits_no (c : UInt8) (h1 : isD c = false) (h2 : c ≠ 45) (h3 : c ≠ 32) : ∀ l : List Int, c ∉ l.flatMap litT
  | [] => by simp
  | x :: l => by
    have := lits_no c h1 h2 h3 l
    have := itoa_no (x := x) c h1 h2
    simp only [List.flatMap_cons, List.mem_append, litT, List.mem_singleton]
    grind
theorem after_lits : ∀ l : List Int, afterOn 32 (l.flatMap litT) = l.map litT ++ [[]]
  | [] => rfl
  | x :: l => by
    have ih := after_lits l
    have h := after_cons 32 (Lib.itoa x) (l.flatMap litT) (itoa_no 32 (by decide) (by decide))
    rw [List.flatMap_cons]
    unfold litT at *
    rw [List.append_assoc, List.singleton_append, h, ih]
    rfl
theorem lines_rows : ∀ l : List (List Int), linesOn (rowsT l) = l.map rowT
  | [] => rfl
  | c :: l => by
    have ih := lines_rows l
    have h := lines_cons (c.flatMap litT ++ [48]) (rowsT l) (by
      rw [List.mem_append]
      rintro (h | h)
      · exact lits_no 10 (by decide) (by decide) (by decide) c h
      · revert h; decide)
    have e : rowsT (c :: l) = (c.flatMap litT ++ [48]) ++ 10 :: rowsT l := by
      show rowT c ++ rowsT l = _
      unfold rowT
      simp
    rw [e, h, ih]
    simp [rowT]
theorem rowF_app (c : List Int) (h : c.all litR = true) : ∀ acc, rowF ((c.map litT ++ [[]]).map fun (l : List UInt8) => (⟨l.toArray⟩ : ByteArray)) acc = some (acc ++ c) := by
  induction c with
  | nil => intro acc; simp [rowF]
  | cons x c ih =>
    intro acc
    simp only [List.all_cons, Bool.and_eq_true] at h
    have hne : litT x ≠ [] := by simp [litT]
    simp only [List.map_cons, List.cons_append, rowF]
    rw [if_neg (by simpa using hne), litW_lit h.1]
    simp only
    have := ih h.2 (acc ++ [x])
    simp only [List.append_assoc, List.singleton_append] at this
    exact this
theorem rows_back : ∀ (l acc : List (List Int)), allR l = true → rowsF ((l.map rowT).map fun (l : List UInt8) => (⟨l.toArray⟩ : ByteArray)) acc = some (acc ++ l)
  | [], acc, _ => by simp [rowsF]
  | c :: l, acc, h => by
    have h' : c.all litR = true ∧ allR l = true := by simpa [allR] using h
    have ht : Lib.trimSuffix (rowT c) [48, 10] = c.flatMap litT := (suffix_mk _ _).2
    have hs : Lib.hasSuffix (rowT c) [48, 10] = true := (suffix_mk _ _).1
    have hw : rowF (wordsB (c.flatMap litT)) [] = some c := by
      unfold wordsB
      rw [after_lits, rowF_app c h'.1]
      rfl
    simp only [List.map_cons, rowsF]
    rw [ht, hw]
    simp only
    rw [if_pos hs, rows_back l (acc ++ [c]) h'.2]
    simp
/-- Every row that may be is read from its text. -/
theorem parse_rowsT (l : List (List Int)) (h : allR l = true) : rowsF (linesB ⟨(rowsT l).toArray⟩) [] = some l := by
  unfold linesB
  rw [show (⟨(rowsT l).toArray⟩ : ByteArray).data.toList = rowsT l from rfl, lines_rows, rows_back l [] h]
  rfl
theorem rowF_some : ∀ (ys : List ByteArray) (acc row : List Int), rowF ys acc = some row → acc.all litR = true → row.all litR = true ∧ row.flatMap litT = acc.flatMap litT ++ (ys.map (·.data.toList)).flatten
  | [], acc, row, h, ha => by simp [rowF] at h; subst h; exact ⟨ha, by simp⟩
  | y :: ys, acc, row, h, ha => by
    unfold rowF at h
    split at h
    · rename_i hy
      have := rowF_some ys acc row h ha
      refine ⟨this.1, ?_⟩
      rw [this.2, List.map_cons, hy]
      simp
    · split at h
      · cases h
      · rename_i x hx
        have hl := litW_some hx
        have := rowF_some ys (acc ++ [x]) row h (by rw [List.all_append, ha]; simp [hl.1])
        refine ⟨this.1, ?_⟩
        rw [this.2, List.map_cons, ← hl.2]
        simp
theorem rowsF_some : ∀ (xs : List ByteArray) (acc r : List (List Int)), rowsF xs acc = some r → allR acc = true → allR r = true ∧ rowsT r = rowsT acc ++ (xs.map (·.data.toList)).flatten
  | [], acc, r, h, ha => by simp [rowsF] at h; subst h; exact ⟨ha, by simp⟩
  | x :: xs, acc, r, h, ha => by
    unfold rowsF at h
    split at h
    · cases h
    · rename_i row hrow
      split at h
      · rename_i hs
        have h1 := rowF_some _ _ _ hrow rfl
        have h2 := rowsF_some xs (acc ++ [row]) r h (by unfold allR at *; rw [List.all_append, ha]; simp; simpa using h1.1)
        refine ⟨h2.1, ?_⟩
        have e : row.flatMap litT = Lib.trimSuffix x.data.toList [48, 10] := by
          rw [h1.2]
          unfold wordsB
          rw [map_lists, after_join]
          rfl
        have e2 : x.data.toList = rowT row := by
          rw [suffix_of hs, ← e]
          rfl
        rw [h2.2, List.map_cons, e2]
        unfold rowsT
        simp
      · cases h
/-- What is read is right, and its text is the text. -/
theorem parse_some (s : ByteArray) (r : List (List Int)) (h : rowsF (linesB s) [] = some r) : allR r = true ∧ rowsT r = s.data.toList := by
  have := rowsF_some _ _ _ h rfl
  refine ⟨this.1, ?_⟩
  rw [this.2]
  unfold linesB
  rw [map_lists, lines_join]
  rfl
/-- The reference's reading: byte for byte. -/
def scanB : List UInt8 → List (List Int) → List Int → List UInt8 → Option (List (List Int))
  | [], rows, row, cur => if cur = [] ∧ row = [] then some rows else none
  | b :: t, rows, row, cur => if b = 10 then (if cur = [48] then scanB t (rows ++ [row]) [] [] else none) else if b = 32 then (match wordX cur with
    | some x => scanB t rows (row ++ [x]) []
    | none => none) else scanB t rows row (cur ++ [b])
theorem scanB_some : ∀ (l : List UInt8) (rows : List (List Int)) (row : List Int) (cur : List UInt8) (r : List (List Int)), scanB l rows row cur = some r → allR rows = true → row.all litR = true →
    allR r = true ∧ rowsT r = rowsT rows ++ row.flatMap litT ++ cur ++ l
  | [], rows, row, cur, r, h, h1, h2 => by
    unfold scanB at h
    split at h
    · rename_i hh
      cases h
      rw [hh.1, hh.2]
      exact ⟨h1, by simp⟩
    · cases h
  | b :: t, rows, row, cur, r, h, h1, h2 => by
    unfold scanB at h
    split at h
    · rename_i hb
      split at h
      · rename_i hc
        have := scanB_some t (rows ++ [row]) [] [] r h (by unfold allR at *; rw [List.all_append, h1]; simp; simpa using h2) rfl
        refine ⟨this.1, ?_⟩
        rw [this.2, hb, hc]
        simp [rowsT, rowT]
      · cases h
    · split at h
      · rename_i hb
        split at h
        · rename_i x hx
          have hw := wordX_iff.1 hx
          have := scanB_some t rows (row ++ [x]) [] r h h1 (by rw [List.all_append, h2]; simp [hw.1])
          refine ⟨this.1, ?_⟩
          rw [this.2, hb, ← hw.2]
          simp [litT]
        · cases h
      · have := scanB_some t rows row (cur ++ [b]) r h h1 h2
        refine ⟨this.1, ?_⟩
        rw [this.2]
        simp
theorem scanB_skip : ∀ (p t : List UInt8) (rows : List (List Int)) (row : List Int) (cur : List UInt8), (10 : UInt8) ∉ p → (32 : UInt8) ∉ p → scanB (p ++ t) rows row cur = scanB t rows row (cur ++ p)
  | [], t, rows, row, cur, _, _ => by simp
  | b :: p, t, rows, row, cur, h1, h2 => by
    have hb1 : b ≠ 10 := fun e => h1 (by simp [e])
    have hb2 : b ≠ 32 := fun e => h2 (by simp [e])
    show scanB (b :: (p ++ t)) rows row cur = _
    rw [scanB, if_neg hb1, if_neg hb2, scanB_skip p t rows row _ (fun hm => h1 (by simp [hm])) (fun hm => h2 (by simp [hm]))]
    simp
theorem scanB_lits (t : List UInt8) (rows : List (List Int)) : ∀ (c row : List Int), c.all litR = true → scanB (c.flatMap litT ++ t) rows row [] = scanB t rows (row ++ c) []
  | [], row, _ => by simp
  | x :: c, row, h => by
    simp only [List.all_cons, Bool.and_eq_true] at h
    have ih := scanB_lits t rows c (row ++ [x]) h.2
    have e : (x :: c).flatMap litT ++ t = Lib.itoa x ++ 32 :: (c.flatMap litT ++ t) := by simp [litT]
    rw [e, scanB_skip _ _ _ _ _ (itoa_no 10 (by decide) (by decide)) (itoa_no 32 (by decide) (by decide))]
    rw [scanB, if_neg (by decide), if_pos rfl, List.nil_append, wordX_iff.2 ⟨h.1, rfl⟩]
    simp only
    rw [ih]
    simp
theorem scanB_rows : ∀ (l rows : List (List Int)), allR l = true → scanB (rowsT l) rows [] [] = some (rows ++ l)
  | [], rows, _ => by simp [scanB, rowsT]
  | c :: l, rows, h => by
    have h' : c.all litR = true ∧ allR l = true := by simpa [allR] using h
    have e : rowsT (c :: l) = c.flatMap litT ++ (48 :: 10 :: rowsT l) := by
      show rowT c ++ rowsT l = _
      unfold rowT
      simp
    rw [e, scanB_lits _ _ _ _ h'.1, scanB, if_neg (by decide), if_neg (by decide), scanB, if_pos rfl, List.nil_append, List.nil_append, if_pos rfl, scanB_rows l _ h'.2]
    simp
/-- Both readings are one. -/
theorem scanB_eq (s : ByteArray) : scanB s.data.toList [] [] [] = rowsF (linesB s) [] := by
  cases h : rowsF (linesB s) [] with
  | some r =>
    obtain ⟨h1, h2⟩ := parse_some s r h
    rw [← h2, scanB_rows r [] h1]
    rfl
  | none =>
    cases h' : scanB s.data.toList [] [] [] with
    | none => rfl
    | some r =>
      obtain ⟨h1, h2⟩ := scanB_some _ _ _ _ _ h' rfl rfl
      have h3 := parse_rowsT r h1
      have e : (⟨(rowsT r).toArray⟩ : ByteArray) = s := by
        apply ByteArray.ext
        rw [h2]
        simp [rowsT]
      rw [e, h] at h3
      cases h3
end Go.Proofs.YtghecdmcghppnaaDoor
