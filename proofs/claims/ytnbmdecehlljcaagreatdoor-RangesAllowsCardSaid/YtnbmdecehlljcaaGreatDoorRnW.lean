/- Plain laws of ranges: what a bound, a row, a range is; what the program's own functions answer. Plain laws of ranges: which versions a bound, a range allows. Plain laws of ranges: the program's Texts, Best and Print. The document's examples on ranges hold. -/
import Derived.Test.YtnbmdecehlljcaaGreatDoorRnP
import Derived.Test.YtnbmdecehlljcaaGreatDoorVerZ
import Derived.Test.YtnbmdecehlljcaaGreatDoorPRqx13
import Derived.Test.YtnbmdecehlljcaaGreatDoorPRqx21
namespace Go.Proofs.YtnbmdecehlljcaaGreatDoor
open Go.RowKit Go.Lib Go.Proofs.YtnbmdecehlljcaaGreatDoorW.PrintWords Go.Proofs.YtnbmdecehlljcaaGreatDoorW.PrintLast Go.Proofs.YtnbmdecehlljcaaGreatDoorW.PrintMore
set_option linter.unusedVariables false
set_option linter.unusedSimpArgs false
theorem all_cg {α : Type} {l : List α} {f g : α → Bool} (h : ∀ x ∈ l, f x = g x) : l.all f = l.all g := by
  induction l with
  | nil => rfl
  | cons a t ih => rw [List.all_cons, List.all_cons, h a (List.mem_cons_self ..), ih fun x hx => h x (List.mem_cons_of_mem _ hx)]
def okC (l : List UInt8) : Bool := (parseC l).isSome
theorem ok_err (l : List UInt8) : (errOf (parseV l) == 0) = okC l := by
  unfold okC
  rw [← parseC_eq]
  cases parseV l <;> rfl
theorem ok_err' (l : List UInt8) : errOf (parseV l) = 0 ↔ okC l = true := by rw [← ok_err, beq_iff_eq]
def tripleV (s : ByteArray) : List Int × ByteArray × Int := (numsOf (parseV s.data.toList), ⟨(tagOf (parseV s.data.toList)).toArray⟩, errOf (parseV s.data.toList))
theorem parse_prog (s : ByteArray) (hs : s.size ≤ 1000000) : version_Parse.f s = some (tripleV s) := by
  unfold version_Parse.f
  rw [if_pos (by omega)]
  rfl
def mayB (b : PRq.S59) : Bool := if b.f0 = 0 then b.f1.data.toList == [] else decide (b.f0 ≤ 7) && okC b.f1.data.toList
theorem mayO_f (b : PRq.S59) (h : b.f1.size ≤ 1000000) : mayO b = some (mayB b) := by
  unfold mayO PRb.ranges_may.f mayB
  by_cases h0 : b.f0 = 0
  · rw [if_pos h0, if_pos h0, ByteArray.toList_eq]
  · rw [if_neg h0, if_neg h0, parse_prog _ h, Option.bind_some]
    by_cases h7 : b.f0 ≤ 7
    · rw [if_pos h7, decide_eq_true h7, Bool.true_and, ← ok_err]
      rfl
    · rw [if_neg h7, decide_eq_false h7]
      rfl
def rowOk (row : List PRq.S59) : Bool := decide (1 ≤ row.length) && decide (row.length ≤ 16) && row.all mayB
def rightV (l : List (List PRq.S59)) : Bool := decide (l.length ≤ 16) && l.all rowOk
def SmallR (l : List (List PRq.S59)) : Prop := ∀ row ∈ l, ∀ b ∈ row, b.f1.size ≤ 1000000
theorem row_ok (row : List PRq.S59) (h : ∀ b ∈ row, b.f1.size ≤ 1000000) : (!badRow row) = rowOk row := by
  unfold badRow rowOk
  have e : (!row.any badB) = row.all mayB := by
    rw [List.not_any_eq_all_not]
    refine all_cg fun b hb => ?_
    unfold badB
    rw [mayO_f b (h b hb), Bool.not_not]
    rfl
  rw [Bool.not_or, Bool.not_or, e]
  congr 2
  · by_cases h1 : row.length < 1
    · rw [decide_eq_true h1, decide_eq_false (by omega)]
      rfl
    · rw [decide_eq_false h1, decide_eq_true (by omega)]
      rfl
  · by_cases h1 : 16 < row.length
    · rw [decide_eq_true h1, decide_eq_false (by omega)]
      rfl
    · rw [decide_eq_false h1, decide_eq_true (by omega)]
      rfl
theorem right_f (l : List (List PRq.S59)) (h : SmallR l) : ranges_right.f l = some (rightV l) := by
  unfold ranges_right.f
  have e : (l.all fun row => row.all mayOK) = true := List.all_eq_true.2 fun row hr => List.all_eq_true.2 fun b hb => by
    unfold mayOK
    rw [mayO_f b (h row hr b hb)]
    rfl
  rw [if_pos e]
  congr 1
  unfold rightB rightV
  congr 1
  rw [List.not_any_eq_all_not]
  exact all_cg fun row hr => row_ok row (h row hr)
/-! #### bounds -/
def signsS : List (Int × List UInt8) := [(1, [61]), (2, [33, 61]), (3, [60]), (4, [60, 61]), (5, [62]), (6, [62, 61]), (7, [126])]
def signB (sg x : List UInt8) : Bool := (x.take sg.length == sg) && okC (x.drop sg.length)
def trySigns : List (Int × List UInt8) → List UInt8 → Option (Int × List UInt8)
  | [], _ => none
  | (op, sg) :: r, x => if signB sg x = true then some (op, x.drop sg.length) else trySigns r x
def boundV (x : List UInt8) : Option (Int × List UInt8) := if x = [42] then some (0, []) else trySigns signsS x
def boundB (x : ByteArray) : Option PRq.S59 := (boundV x.data.toList).map fun p => ⟨p.1, ⟨p.2.toArray⟩⟩
def tripB (o : Option (Int × List UInt8)) : Int × ByteArray × Bool := match o with
  | none => (0, ⟨#[]⟩, false)
  | some p => (p.1, ⟨p.2.toArray⟩, true)
theorem extract_list (s : ByteArray) (i j : Nat) : (s.extract i j).data.toList = (s.data.toList.drop i).take (j - i) := by
  rw [ByteArray.data_extract, Array.toList_extract, List.extract_eq_take_drop]
theorem ba_size (s : ByteArray) : s.size = s.data.toList.length := by rw [Array.length_toList]; rfl
theorem cutPrefix_f (s sg : ByteArray) : PRb.strings_CutPrefix.f s sg = some (if (s.data.toList.take sg.data.toList.length == sg.data.toList) = true then (⟨(s.data.toList.drop sg.data.toList.length).toArray⟩, true) else (s, false)) := by
  have hs := ba_size s
  have hg := ba_size sg
  unfold PRb.strings_CutPrefix.f PRb.stringslite_CutPrefix.f PRb.stringslite_HasPrefix.f
  by_cases h : sg.size ≤ s.size
  · rw [if_pos (by omega), if_pos (by omega), if_pos (by omega), Option.bind_some]
    have e1 : (s.extract 0 ((sg.size : Int) : Int).toNat).toList = s.data.toList.take sg.data.toList.length := by
      rw [ByteArray.toList_eq, extract_list, Int.toNat_natCast, List.drop_zero, Nat.sub_zero, hg]
    rw [e1, ByteArray.toList_eq]
    by_cases hp : (s.data.toList.take sg.data.toList.length == sg.data.toList) = true
    · rw [if_pos hp, if_pos hp, if_pos (by omega), if_pos (by omega), Option.bind_some]
      congr 2
      apply ByteArray.ext
      apply Array.ext'
      rw [extract_list, Int.toNat_natCast, List.take_of_length_le (by rw [List.length_drop]; omega), hg]
    · rw [if_neg hp, if_neg hp, Option.bind_some]
  · rw [if_neg (by omega), Option.bind_some, if_neg (by decide), Option.bind_some]
    have : (s.data.toList.take sg.data.toList.length == sg.data.toList) = false := by
      rw [beq_eq_false_iff_ne]
      intro e
      have := congrArg List.length e
      rw [List.length_take] at this
      omega
    rw [this]
    rfl
theorem bound_step (k : Nat) (x : ByteArray) (hx : x.size ≤ 1000000) (z : Int) (h0 : 0 < z) (h8 : z < 8) (sg : ByteArray) (hs : rdOf ByteArray.empty signsL z = sg) :
    PRb.ranges_bound.l0 (k + 1) x signsL 8 z = if signB sg.data.toList x.data.toList = true then some (z, ⟨(x.data.toList.drop sg.data.toList.length).toArray⟩, true) else PRb.ranges_bound.l0 k x signsL 8 (z + 1) := by
  have hl : (signsL.length : Int) = 8 := rfl
  have hw : wrap64 (z + 1) = z + 1 := by unfold wrap64; omega
  simp only [PRb.ranges_bound.l0]
  rw [if_pos h8, if_pos (by omega), if_pos (by omega), hs, cutPrefix_f, Option.bind_some, hw]
  unfold signB
  by_cases hp : (x.data.toList.take sg.data.toList.length == sg.data.toList) = true
  · have hd : (⟨(x.data.toList.drop sg.data.toList.length).toArray⟩ : ByteArray).size ≤ 1000000 := by
      rw [ba_size]
      have := ba_size x
      simp
      omega
    rw [if_pos hp, parse_prog _ hd, Option.bind_some, hp, Bool.true_and, if_pos rfl]
    have he : (tripleV ⟨(x.data.toList.drop sg.data.toList.length).toArray⟩).2.2 = 0 ↔ okC (x.data.toList.drop sg.data.toList.length) = true := ok_err' (x.data.toList.drop sg.data.toList.length)
    have hm : z % 256 = z := by omega
    by_cases ho : okC (x.data.toList.drop sg.data.toList.length) = true
    · rw [if_pos (he.2 ho), if_pos h0, if_pos ho, hm]
    · rw [if_neg (fun e => ho (he.1 e)), if_neg ho]
  · rw [if_neg hp, parse_prog _ hx, Option.bind_some, if_neg (show ¬ (x, false).2 = true from Bool.false_ne_true)]
    rw [Bool.not_eq_true] at hp
    rw [hp, Bool.false_and, if_neg (by decide)]
theorem boundF_eq (x : ByteArray) (hx : x.size ≤ 1000000) : boundF x = some (tripB (boundV x.data.toList)) := by
  unfold boundF PRb.ranges_bound.f boundV
  rw [ByteArray.toList_eq]
  by_cases h : x.data.toList = [42]
  · rw [if_pos h, if_pos h]
    rfl
  · rw [if_neg h, if_neg h]
    have hf : strings_Fields.f (⟨#[42, 32, 61, 32, 33, 61, 32, 60, 32, 60, 61, 32, 62, 32, 62, 61, 32, 126]⟩ : ByteArray) = some signsL := by
      unfold strings_Fields.f
      exact if_pos rfl
    rw [hf, Option.bind_some]
    show PRb.ranges_bound.l0 12 x signsL 8 0 = _
    have e0 : PRb.ranges_bound.l0 12 x signsL 8 0 = PRb.ranges_bound.l0 11 x signsL 8 1 := by
      have hl : (signsL.length : Int) = 8 := rfl
      have hw : wrap64 (0 + 1) = 1 := by unfold wrap64; omega
      conv => lhs; unfold PRb.ranges_bound.l0
      rw [if_pos (by omega), if_pos (by omega), if_pos (by omega), cutPrefix_f, Option.bind_some, hw]
      split
      · next hp =>
        have hd : (⟨(x.data.toList.drop (rdOf ByteArray.empty signsL 0).data.toList.length).toArray⟩ : ByteArray).size ≤ 1000000 := by
          rw [ba_size]
          have := ba_size x
          simp
          omega
        rw [parse_prog _ hd, Option.bind_some]
        simp
      · rw [parse_prog _ hx, Option.bind_some]
        simp
    rw [e0, bound_step 10 x hx 1 (by omega) (by omega) ⟨#[61]⟩ rfl]
    unfold signsS
    unfold trySigns
    show (if signB [61] x.data.toList = true then _ else _) = _
    by_cases h1 : signB [61] x.data.toList = true
    · rw [if_pos h1, if_pos h1]
      rfl
    · rw [if_neg h1, if_neg h1]
      show PRb.ranges_bound.l0 10 x signsL 8 2 = _
      rw [bound_step 9 x hx 2 (by omega) (by omega) ⟨#[33, 61]⟩ rfl]
      unfold trySigns
      show (if signB [33, 61] x.data.toList = true then _ else _) = _
      by_cases h2 : signB [33, 61] x.data.toList = true
      · rw [if_pos h2, if_pos h2]
        rfl
      · rw [if_neg h2, if_neg h2]
        show PRb.ranges_bound.l0 9 x signsL 8 3 = _
        rw [bound_step 8 x hx 3 (by omega) (by omega) ⟨#[60]⟩ rfl]
        unfold trySigns
        show (if signB [60] x.data.toList = true then _ else _) = _
        by_cases h3 : signB [60] x.data.toList = true
        · rw [if_pos h3, if_pos h3]
          rfl
        · rw [if_neg h3, if_neg h3]
          show PRb.ranges_bound.l0 8 x signsL 8 4 = _
          rw [bound_step 7 x hx 4 (by omega) (by omega) ⟨#[60, 61]⟩ rfl]
          unfold trySigns
          show (if signB [60, 61] x.data.toList = true then _ else _) = _
          by_cases h4 : signB [60, 61] x.data.toList = true
          · rw [if_pos h4, if_pos h4]
            rfl
          · rw [if_neg h4, if_neg h4]
            show PRb.ranges_bound.l0 7 x signsL 8 5 = _
            rw [bound_step 6 x hx 5 (by omega) (by omega) ⟨#[62]⟩ rfl]
            unfold trySigns
            show (if signB [62] x.data.toList = true then _ else _) = _
            by_cases h5 : signB [62] x.data.toList = true
            · rw [if_pos h5, if_pos h5]
              rfl
            · rw [if_neg h5, if_neg h5]
              show PRb.ranges_bound.l0 6 x signsL 8 6 = _
              rw [bound_step 5 x hx 6 (by omega) (by omega) ⟨#[62, 61]⟩ rfl]
              unfold trySigns
              show (if signB [62, 61] x.data.toList = true then _ else _) = _
              by_cases h6 : signB [62, 61] x.data.toList = true
              · rw [if_pos h6, if_pos h6]
                rfl
              · rw [if_neg h6, if_neg h6]
                show PRb.ranges_bound.l0 5 x signsL 8 7 = _
                rw [bound_step 4 x hx 7 (by omega) (by omega) ⟨#[126]⟩ rfl]
                unfold trySigns
                show (if signB [126] x.data.toList = true then _ else _) = _
                by_cases h7 : signB [126] x.data.toList = true
                · rw [if_pos h7, if_pos h7]
                  rfl
                · rw [if_neg h7, if_neg h7]
                  rfl
/-! #### rows, ranges -/
def mapO {α β : Type} (f : α → Option β) : List α → Option (List β)
  | [] => some []
  | x :: xs => match f x with
    | none => none
    | some b => match mapO f xs with
      | none => none
      | some l => some (b :: l)
theorem rowF_eq : ∀ (xs : List ByteArray) (acc : List PRq.S59), (∀ x ∈ xs, x.size ≤ 1000000) → acc.length ≤ 16 →
    rowF xs acc = some (match mapO boundB xs with | none => none | some l => if acc.length + l.length ≤ 16 then some (acc ++ l) else none)
  | [], acc, _, ha => by
    show some (some acc) = _
    simp [mapO, ha]
  | x :: xs, acc, hx, ha => by
    have ih := rowF_eq xs
    have hb := boundF_eq x (hx x (List.mem_cons_self ..))
    unfold rowF mapO
    have eB : boundB x = (boundV x.data.toList).map fun p => ⟨p.1, ⟨p.2.toArray⟩⟩ := rfl
    rw [hb, Option.bind_some, eB]
    cases hv : boundV x.data.toList with
    | none =>
      rw [if_pos (.inl rfl)]
      rfl
    | some p =>
      by_cases h16 : acc.length = 16
      · rw [if_pos (.inr h16)]
        congr 1
        simp only [Option.map_some]
        cases mapO boundB xs with
        | none => rfl
        | some l =>
          simp only []
          rw [if_neg (by simp only [List.length_cons]; omega)]
      · rw [if_neg (by simp [tripB, h16]), ih _ (fun y hy => hx y (List.mem_cons_of_mem _ hy)) (by simp; omega)]
        congr 1
        simp only [Option.map_some]
        cases mapO boundB xs with
        | none => rfl
        | some l =>
          simp only [List.length_append, List.length_cons, List.length_nil, List.append_assoc, List.cons_append, List.nil_append]
          have e : (acc.length + (0 + 1) + l.length ≤ 16) = (acc.length + (l.length + 1) ≤ 16) := by
            apply propext
            omega
          simp only [e]
          rfl
def partR (p : ByteArray) : Option (List PRq.S59) := mapO boundB (splitB 44 p)
def fewR (r : List (List PRq.S59)) : Bool := r.all fun row => decide (row.length ≤ 16)
theorem split_small {c : UInt8} {s : ByteArray} (hs : s.size ≤ 1000000) : ∀ x ∈ splitB c s, x.size ≤ 1000000 := fun x hx => by
  obtain ⟨i, hi, e⟩ := List.getElem_of_mem hx
  have := splitB_le (c := c) (s := s) (x := x) (i := i) (by rw [List.getElem?_eq_getElem hi, e])
  omega
theorem rowsF_eq : ∀ (ps : List ByteArray) (acc : List (List PRq.S59)), (∀ p ∈ ps, p.size ≤ 1000000) → acc.length ≤ 16 →
    rowsF ps acc = some (match mapO partR ps with | none => none | some r => if acc.length + r.length ≤ 16 ∧ fewR r = true then some (acc ++ r) else none)
  | [], acc, _, ha => by
    show some (some acc) = _
    simp [mapO, ha, fewR]
  | p :: ps, acc, hp, ha => by
    have ih := rowsF_eq ps
    have hr := rowF_eq (splitB 44 p) [] (split_small (hp p (List.mem_cons_self ..))) (by simp)
    unfold rowsF mapO
    rw [hr, Option.bind_some]
    have eP : partR p = mapO boundB (splitB 44 p) := rfl
    rw [eP]
    cases mapO boundB (splitB 44 p) with
    | none => rfl
    | some row =>
      simp only [List.length_nil, Nat.zero_add, List.nil_append]
      by_cases hl : row.length ≤ 16
      · rw [if_pos hl]
        simp only []
        by_cases h16 : acc.length = 16
        · rw [if_pos h16]
          congr 1
          cases mapO partR ps with
          | none => rfl
          | some l =>
            simp only []
            rw [if_neg (by simp only [List.length_cons]; omega)]
        · rw [if_neg h16, ih _ (fun y hy => hp y (List.mem_cons_of_mem _ hy)) (by simp; omega)]
          congr 1
          cases mapO partR ps with
          | none => rfl
          | some l =>
            simp only [List.length_append, List.length_cons, List.length_nil, List.append_assoc, List.cons_append, List.nil_append]
            have e : (acc.length + (0 + 1) + l.length ≤ 16 ∧ fewR l = true) = (acc.length + (l.length + 1) ≤ 16 ∧ fewR (row :: l) = true) := by
              apply propext
              have : fewR (row :: l) = fewR l := by simp [fewR, hl]
              rw [this]
              constructor <;> rintro ⟨a, b⟩ <;> exact ⟨by omega, b⟩
            simp only [e]
      · rw [if_neg hl]
        simp only []
        congr 1
        cases mapO partR ps with
        | none => rfl
        | some l =>
          simp only []
          rw [if_neg (by simp [fewR]; omega)]
def parseR (s : ByteArray) : Option (List (List PRq.S59)) := match mapO partR (splitB 124 s) with
  | none => none
  | some r => if r.length ≤ 16 ∧ fewR r = true then some r else none
theorem Parse_prog (s : ByteArray) (hs : s.size ≤ 1000000) : ranges_Parse.f s = some (outF (parseR s)) := by
  unfold ranges_Parse.f
  rw [if_pos (by omega), rowsF_eq _ _ (split_small hs) (by simp)]
  unfold parseR
  cases mapO partR (splitB 124 s) with
  | none => rfl
  | some r => simp
end Go.Proofs.YtnbmdecehlljcaaGreatDoor
namespace Go.Proofs.YtnbmdecehlljcaaGreatDoor
open Go.RowKit Go.Lib Go.Proofs.YtnbmdecehlljcaaGreatDoorW.PrintWords Go.Proofs.YtnbmdecehlljcaaGreatDoorW.PrintLast Go.Proofs.YtnbmdecehlljcaaGreatDoorW.PrintMore
set_option linter.unusedVariables false
set_option linter.unusedSimpArgs false
theorem Ev.ite_pos {α : Type} {c : Prop} [Decidable c] {f g : Nat → Option α} {r : α} (h : c) (k : Ev f r) : Ev (fun n => if c then f n else g n) r := Ev.congr (fun n => if_pos h) k
theorem Ev.ite_neg {α : Type} {c : Prop} [Decidable c] {f g : Nat → Option α} {r : α} (h : ¬c) (k : Ev g r) : Ev (fun n => if c then f n else g n) r := Ev.congr (fun n => if_neg h) k
theorem Ev.const {α : Type} {o : Option α} {r : α} (h : o = some r) : Ev (fun _ => o) r := ⟨0, fun _ _ => h⟩
theorem wrap_id {x : Int} (h1 : -9223372036854775808 ≤ x) (h2 : x ≤ 9223372036854775807) : wrap64 x = x := by unfold wrap64; omega
theorem rd_nat (xs : List Int) (i : Nat) : rd xs (i : Int) = xs.getD i 0 := rfl
theorem rdS_nat (xs : List ByteArray) (i : Nat) : rdOf ByteArray.empty xs (i : Int) = xs.getD i ByteArray.empty := rfl
theorem ba_eq {s t : ByteArray} : s = t ↔ s.data.toList = t.data.toList := ⟨fun h => by rw [h], fun h => ByteArray.ext (Array.ext' h)⟩
theorem nums_len (s : List UInt8) : (numsOf (parseV s)).length ≤ 8 ∧ (tagOf (parseV s)).length ≤ 16 := by
  cases h : parseV s with
  | none => simp [numsOf, tagOf]
  | some x =>
    have := (parseV_some (ns := x.1) (t := x.2) h).1
    unfold okV tagB at this
    simp at this
    simp only [numsOf, tagOf]
    omega
theorem nums_pos (s : List UInt8) (h : okC s = true) : 1 ≤ (numsOf (parseV s)).length := by
  unfold okC at h
  rw [← parseC_eq] at h
  obtain ⟨x, hx⟩ := Option.isSome_iff_exists.1 h
  have := (parseV_some (ns := x.1) (t := x.2) hx).1
  unfold okV at this
  simp at this
  rw [hx]
  simp only [numsOf]
  omega
theorem equal_l0 (a b : List Int) (he : a.length = b.length) (hl : a.length ≤ 1000000000) : ∀ (d i k : Nat), i + d = a.length → d < k → (∀ q, q < i → a.getD q 0 = b.getD q 0) → PRb.slices_Equal_int_int.l0 k a b (a.length : Int) (i : Int) = some (decide (a = b)) := by
  intro d
  induction d with
  | zero =>
    intro i k hi hk hq
    obtain ⟨k, rfl⟩ : ∃ m, k = m + 1 := ⟨k - 1, by omega⟩
    have : a = b := List.ext_getElem he (fun q q1 q2 => by have := hq q (by omega); simpa [q1, q2] using this)
    rw [decide_eq_true this]
    simp only [PRb.slices_Equal_int_int.l0]
    rw [if_neg (by omega)]
  | succ d ih =>
    intro i k hi hk hq
    obtain ⟨k, rfl⟩ : ∃ m, k = m + 1 := ⟨k - 1, by omega⟩
    simp only [PRb.slices_Equal_int_int.l0]
    rw [if_pos (by omega), if_pos (by omega), if_pos (by omega), if_pos (by omega), rd_nat, rd_nat, wrap_id (by omega) (by omega)]
    by_cases e : a.getD i 0 = b.getD i 0
    · rw [if_pos e]
      exact ih (i + 1) k (by omega) (by omega) (fun q hq' => by
        by_cases e' : q = i
        · rw [e']; exact e
        · exact hq q (by omega))
    · rw [if_neg e, decide_eq_false (fun h => e (by rw [h]))]
theorem equal_f (a b : List Int) (k : Nat) (hl : a.length ≤ 1000000000) (hk : a.length < k) : PRb.slices_Equal_int_int.f k a b = some (decide (a = b)) := by
  unfold PRb.slices_Equal_int_int.f
  by_cases h : a.length = b.length
  · rw [if_pos (by omega)]
    exact equal_l0 a b h hl a.length 0 k (by omega) hk (fun q hq => absurd hq (Nat.not_lt_zero _))
  · rw [if_neg (by omega), decide_eq_false (fun e => h (by rw [e]))]
def nearN (m : List Int) : Nat := if m.length ≤ 2 then 1 else m.length - 1
def nearV (l : List Int) (t : List UInt8) (m : List Int) (u : List UInt8) : Bool := decide (cmpV l t m u ≥ 0) && (decide (nearN m ≤ l.length) && decide (l.take (nearN m) = m.take (nearN m)))
theorem near_f (l : List Int) (t : ByteArray) (m : List Int) (u : ByteArray) (hl : l.length ≤ 1000000) (hm : m.length ≤ 1000000) (h1 : 1 ≤ m.length) (ht : t.size ≤ 1000000) (hu : u.size ≤ 1000000) :
    PRb.ranges_near.f (l.length + 2) l t m u = some (nearV l t.data.toList m u.data.toList) := by
  unfold PRb.ranges_near.f nearV
  have hc : version_Compare.f l t m u = some (cmpV l t.data.toList m u.data.toList) := by
    unfold version_Compare.f
    rw [if_pos ⟨by omega, by omega, by omega, by omega⟩]
  have hn : mx 1 (wrap64 ((m.length : Int) - 1)) = (nearN m : Int) := by
    rw [wrap_id (by omega) (by omega)]
    unfold mx nearN
    split <;> split <;> omega
  have hnm : nearN m ≤ m.length := by
    unfold nearN
    split <;> omega
  rw [hc, Option.bind_some, hn]
  by_cases c1 : cmpV l t.data.toList m u.data.toList ≥ 0
  · rw [if_pos c1, decide_eq_true c1, Bool.true_and]
    by_cases c2 : nearN m ≤ l.length
    · rw [if_pos (by omega), if_pos (by omega), if_pos (by omega), if_pos (by omega), decide_eq_true c2, Bool.true_and, Int.toNat_natCast, equal_f _ _ _ (by rw [List.length_take]; omega) (by rw [List.length_take]; omega), Option.bind_some]
    · rw [if_neg (by omega), decide_eq_false c2, Bool.false_and]
  · rw [if_neg c1, decide_eq_false c1, Bool.false_and]
def allowB (b : PRq.S59) (l : List Int) (t : List UInt8) : Bool := if b.f0 = 0 then true else
  if b.f0 = 7 then nearV l t (numsOf (parseC b.f1.data.toList)) (tagOf (parseC b.f1.data.toList)) else opB b.f0 (cmpV l t (numsOf (parseC b.f1.data.toList)) (tagOf (parseC b.f1.data.toList)))
theorem allows_f (b : PRq.S59) (l : List Int) (t : ByteArray) (hb : mayB b = true) (h0 : 0 ≤ b.f0) (hs : b.f1.size ≤ 1000000) (hl : l.length ≤ 1000000) (ht : t.size ≤ 1000000) : ranges_allows.f b l t = some (allowB b l t.data.toList) := by
  unfold ranges_allows.f allowB
  unfold mayB at hb
  by_cases c0 : b.f0 = 0
  · rw [if_pos c0, if_pos c0]
  · rw [if_neg c0] at hb
    rw [if_neg c0, if_neg c0, parse_prog _ hs, Option.bind_some]
    simp only [Bool.and_eq_true, decide_eq_true_eq] at hb
    obtain ⟨h7, hok⟩ := hb
    have hn := nums_len b.f1.data.toList
    have hp := nums_pos _ hok
    have hu : (⟨(tagOf (parseV b.f1.data.toList)).toArray⟩ : ByteArray).size ≤ 16 := by
      rw [ba_size]
      exact hn.2
    have hc : version_Compare.f l t (tripleV b.f1).1 (tripleV b.f1).2.1 = some (cmpV l t.data.toList (numsOf (parseV b.f1.data.toList)) (tagOf (parseV b.f1.data.toList))) := by
      unfold version_Compare.f tripleV
      rw [if_pos ⟨by omega, by simp only []; omega, by omega, by simp only []; omega⟩]
    rw [hc, Option.bind_some, ← parseC_eq]
    by_cases c7 : b.f0 = 7
    · rw [if_neg (by omega), if_pos c7, if_pos c7]
      exact near_f l t _ _ hl (by simp only [tripleV]; omega) hp ht (by simp only [tripleV]; omega)
    · rw [if_pos (by omega), if_neg c7]
def allowsR (l : List (List PRq.S59)) (s : List UInt8) : Bool := match parseC s with
  | none => false
  | some v => rightV l && (decide (l.length = 0) || l.any fun row => row.all fun b => allowB b v.1 v.2)
def WfR (l : List (List PRq.S59)) : Prop := ∀ row ∈ l, ∀ b ∈ row, 0 ≤ b.f0
theorem any_cg {α : Type} {l : List α} {f g : α → Bool} (h : ∀ x ∈ l, f x = g x) : l.any f = l.any g := by
  induction l with
  | nil => rfl
  | cons a t ih => rw [List.any_cons, List.any_cons, h a (List.mem_cons_self ..), ih fun x hx => h x (List.mem_cons_of_mem _ hx)]
theorem Allows_f (l : List (List PRq.S59)) (s : ByteArray) (hl : SmallR l) (hw : WfR l) (hs : s.size ≤ 1000000) : ranges_Allows.f l s = some (allowsR l s.data.toList) := by
  unfold ranges_Allows.f allowsR
  rw [parse_prog _ hs, Option.bind_some, ← parseC_eq]
  have hn := nums_len s.data.toList
  cases hv : parseV s.data.toList with
  | none =>
    have : ¬ (tripleV s).2.2 = 0 := by
      simp only [tripleV, hv]
      decide
    rw [if_neg this]
  | some v =>
    rw [hv] at hn
    have e : tripleV s = (v.1, ⟨v.2.toArray⟩, 0) := by simp only [tripleV, hv, numsOf, tagOf, errOf]
    rw [e, if_pos rfl, right_f l hl, Option.bind_some]
    cases hr : rightV l with
    | false => rfl
    | true =>
      rw [if_pos rfl]
      simp only [Bool.true_and]
      by_cases h0 : l.length = 0
      · rw [if_pos h0, decide_eq_true h0]
        rfl
      · rw [if_neg h0, decide_eq_false h0, Bool.false_or]
        have hrow : ∀ row ∈ l, ∀ b ∈ row, ranges_allows.f b v.1 (⟨v.2.toArray⟩ : ByteArray) = some (allowB b v.1 v.2) := fun row h1 b h2 => by
          unfold rightV at hr
          have h3 := List.all_eq_true.1 (Bool.and_eq_true_iff.1 hr).2 row h1
          unfold rowOk at h3
          have h4 := List.all_eq_true.1 (Bool.and_eq_true_iff.1 h3).2 b h2
          exact allows_f b v.1 _ h4 (hw row h1 b h2) (hl row h1 b h2) (by have := hn.1; simp only [numsOf] at this; omega) (by rw [ba_size]; have := hn.2; simp only [tagOf] at this; show v.2.length ≤ _; omega)
        have e1 : (l.all fun row => row.all (okB v.1 (⟨v.2.toArray⟩ : ByteArray))) = true := List.all_eq_true.2 fun row h1 => List.all_eq_true.2 fun b h2 => by
          unfold okB
          rw [hrow row h1 b h2]
          rfl
        rw [if_pos e1]
        congr 1
        refine any_cg fun row h1 => ?_
        unfold okRow
        rw [List.not_any_eq_all_not]
        refine all_cg fun b h2 => ?_
        unfold notB
        rw [hrow row h1 b h2, Bool.not_not]
        rfl
end Go.Proofs.YtnbmdecehlljcaaGreatDoor
namespace Go.Proofs.YtnbmdecehlljcaaGreatDoor
open Go.RowKit Go.Lib Go.Proofs.YtnbmdecehlljcaaGreatDoorW.PrintWords Go.Proofs.YtnbmdecehlljcaaGreatDoorW.PrintLast Go.Proofs.YtnbmdecehlljcaaGreatDoorW.PrintMore
set_option linter.unusedVariables false
set_option linter.unusedSimpArgs false
def textC (s t : ByteArray) : Int × Bool := match parseC s.data.toList with
  | none => (0, false)
  | some a => match parseC t.data.toList with
    | none => (0, false)
    | some b => (cmpV a.1 a.2 b.1 b.2, true)
theorem triple_some {s : ByteArray} {v : List Int × List UInt8} (h : parseC s.data.toList = some v) : tripleV s = (v.1, ⟨v.2.toArray⟩, 0) := by
  unfold tripleV
  rw [parseC_eq, h]
  rfl
theorem triple_none {s : ByteArray} (h : parseC s.data.toList = none) : tripleV s = ([], ⟨#[]⟩, 130) := by
  unfold tripleV
  rw [parseC_eq, h]
  rfl
theorem some_len {s : List UInt8} {v : List Int × List UInt8} (h : parseC s = some v) : v.1.length ≤ 8 ∧ v.2.length ≤ 16 := by
  have := nums_len s
  rw [parseC_eq, h] at this
  exact this
theorem compare_c {s t : List UInt8} {a b : List Int × List UInt8} (ha : parseC s = some a) (hb : parseC t = some b) : version_Compare.f a.1 ⟨a.2.toArray⟩ b.1 ⟨b.2.toArray⟩ = some (cmpV a.1 a.2 b.1 b.2) := by
  have h1 := some_len ha
  have h2 := some_len hb
  have e1 := ba_size ⟨a.2.toArray⟩
  have e2 := ba_size ⟨b.2.toArray⟩
  simp only [] at e1 e2
  unfold version_Compare.f
  rw [if_pos ⟨by omega, by omega, by omega, by omega⟩]
theorem Texts_f (s t : ByteArray) (hs : s.size ≤ 1000000) (ht : t.size ≤ 1000000) : PRq.version_Texts.f s t = some (textC s t) := by
  unfold PRq.version_Texts.f textC
  rw [parse_prog _ hs, Option.bind_some, parse_prog _ ht, Option.bind_some]
  cases h1 : parseC s.data.toList with
  | none =>
    rw [triple_none h1, if_neg (by decide)]
  | some a =>
    rw [triple_some h1, if_pos rfl]
    cases h2 : parseC t.data.toList with
    | none => rw [triple_none h2, if_neg (by decide)]
    | some b =>
      rw [triple_some h2, if_pos rfl, compare_c h1 h2]
      rfl
/-- The greatest that is allowed, from place i on; best: the place of the greatest so far. -/
def bestR (r : List (List PRq.S59)) (l : List ByteArray) : Nat → Nat → Int → Int
  | 0, _, best => best
  | d + 1, i, best => bestR r l d (i + 1) (if allowsR r (l.getD i ByteArray.empty).data.toList = true then
      (if best ≥ 0 then (if (textC (l.getD i ByteArray.empty) (l.getD best.toNat ByteArray.empty)).1 ≤ 0 then best else i) else i) else best)
theorem getD_mem {α : Type} (l : List α) (z : α) (i : Nat) (h : i < l.length) : l.getD i z ∈ l := by
  rw [List.getD_eq_getElem?_getD, List.getElem?_eq_getElem h]
  exact List.getElem_mem h
theorem best_l0 (r : List (List PRq.S59)) (l : List ByteArray) (hr : SmallR r) (hw : WfR r) (hl : l.length ≤ 1000000) (hs : ∀ s ∈ l, s.size ≤ 1000000) : ∀ (d i : Nat) (best : Int), i + d = l.length → -1 ≤ best → best < (l.length : Int) →
    Ev (fun k => PRq.ranges_Best.l0 k r l best l (l.length : Int) (i : Int)) (bestR r l d i best) := by
  intro d
  induction d with
  | zero =>
    intro i best hi _ _
    refine Ev.step (f := fun _ => some best) (fun k => ?_) (Ev.now _)
    simp only [PRq.ranges_Best.l0]
    rw [if_neg (by omega)]
  | succ d ih =>
    intro i best hi h0 h1
    have hsi := hs _ (getD_mem l ByteArray.empty i (by omega))
    have hA := Allows_f r (l.getD i ByteArray.empty) hr hw hsi
    unfold bestR
    by_cases ha : allowsR r (l.getD i ByteArray.empty).data.toList = true
    · rw [if_pos ha]
      rw [ha] at hA
      by_cases hb : best ≥ 0
      · rw [if_pos hb]
        obtain ⟨b, rfl⟩ := Int.eq_ofNat_of_zero_le hb
        have hT := Texts_f (l.getD i ByteArray.empty) (l.getD b ByteArray.empty) hsi (hs _ (getD_mem l ByteArray.empty b (by omega)))
        rw [Int.toNat_natCast]
        by_cases hc : (textC (l.getD i ByteArray.empty) (l.getD b ByteArray.empty)).1 ≤ 0
        · rw [if_pos hc]
          refine Ev.step (fun k => ?_) (ih (i + 1) b (by omega) (by omega) (by omega))
          simp only [PRq.ranges_Best.l0]
          rw [if_pos (by omega), if_pos (by omega), if_pos (by omega), rdS_nat, hA, Option.bind_some, if_pos rfl, if_pos hb, if_pos hb, if_pos (by omega), rdS_nat, hT, Option.bind_some, if_pos hc, wrap_id (by omega) (by omega)]
          rfl
        · rw [if_neg hc]
          refine Ev.step (fun k => ?_) (ih (i + 1) i (by omega) (by omega) (by omega))
          simp only [PRq.ranges_Best.l0]
          rw [if_pos (by omega), if_pos (by omega), if_pos (by omega), rdS_nat, hA, Option.bind_some, if_pos rfl, if_pos hb, if_pos hb, if_pos (by omega), rdS_nat, hT, Option.bind_some, if_neg hc, wrap_id (by omega) (by omega)]
          rfl
      · rw [if_neg hb]
        refine Ev.step (fun k => ?_) (ih (i + 1) i (by omega) (by omega) (by omega))
        simp only [PRq.ranges_Best.l0]
        rw [if_pos (by omega), if_pos (by omega), if_pos (by omega), rdS_nat, hA, Option.bind_some, if_pos rfl, if_neg hb, wrap_id (by omega) (by omega)]
        rfl
    · rw [if_neg ha]
      rw [Bool.not_eq_true] at ha
      rw [ha] at hA
      refine Ev.step (fun k => ?_) (ih (i + 1) best (by omega) h0 h1)
      simp only [PRq.ranges_Best.l0]
      rw [if_pos (by omega), if_pos (by omega), if_pos (by omega), rdS_nat, hA, Option.bind_some, if_neg (by decide), wrap_id (by omega) (by omega)]
      rfl
theorem Best_ev (r : List (List PRq.S59)) (l : List ByteArray) (hr : SmallR r) (hw : WfR r) (hl : l.length ≤ 1000000) (hs : ∀ s ∈ l, s.size ≤ 1000000) : Ev (fun k => PRq.ranges_Best.f k r l) (bestR r l l.length 0 (-1)) :=
  Ev.congr (f := fun k => PRq.ranges_Best.l0 k r l (-1) l (l.length : Int) ((0 : Nat) : Int)) (fun k => rfl) (best_l0 r l hr hw hl hs l.length 0 (-1) (by omega) (by omega) (by omega))
/-! #### Print -/
def boundT (b : PRq.S59) : List UInt8 := (rdOf ByteArray.empty signsL b.f0).data.toList ++ (if b.f0 = 0 then [] else b.f1.data.toList)
def rowT (row : List PRq.S59) : List UInt8 := joinOn 44 (row.map boundT)
def printR (l : List (List PRq.S59)) : ByteArray × Int := if rightV l = true then (if l.length = 0 then (⟨#[42]⟩, 0) else (⟨(joinOn 124 (l.map rowT)).toArray⟩, 0)) else (⟨#[]⟩, 2)
theorem joinOn_le (c : UInt8) (B : Nat) : ∀ ps : List (List UInt8), (∀ p ∈ ps, p.length ≤ B) → (joinOn c ps).length ≤ (B + 1) * ps.length
  | [], _ => by simp [joinOn]
  | [p], h => by have := h p (List.mem_cons_self ..); simp [joinOn]; omega
  | p :: q :: r, h => by
    have ih := joinOn_le c B (q :: r) (fun x hx => h x (List.mem_cons_of_mem _ hx))
    have := h p (List.mem_cons_self ..)
    have e : (B + 1) * (p :: q :: r).length = (B + 1) * (q :: r).length + (B + 1) := by rw [List.length_cons, Nat.mul_succ]
    rw [e]
    simp only [joinOn, List.length_append, List.length_cons] at *
    omega
theorem join_f (l : List (List UInt8)) (c : UInt8) (hl : l.length ≤ 1000) (hs : ∀ p ∈ l, p.length ≤ 100000000) : strings_Join.f (l.map fun x => ⟨x.toArray⟩) ⟨#[c]⟩ = some ⟨(joinOn c l).toArray⟩ := by
  have e : (l.map fun x => (⟨x.toArray⟩ : ByteArray)).map (·.data.toList) = l := by
    rw [List.map_map]
    conv => rhs; rw [← List.map_id l]
    rfl
  have e2 : (⟨#[c]⟩ : ByteArray).data.toList = [c] := rfl
  have h := joinOn_le c 100000000 l hs
  have h3 : (100000000 + 1) * l.length ≤ (100000000 + 1) * 1000 := Nat.mul_le_mul_left _ hl
  unfold strings_Join.f
  rw [e, e2, join_joinOn, if_pos ⟨by rw [List.length_map]; omega, by omega⟩]
theorem sign_size (z : Int) : (rdOf ByteArray.empty signsL z).data.toList.length ≤ 2 := by
  unfold rdOf
  have : ∀ n : Nat, (signsL.getD n ByteArray.empty).data.toList.length ≤ 2 := by
    intro n
    match n with
    | 0 | 1 | 2 | 3 | 4 | 5 | 6 | 7 => decide
    | n + 8 => exact Nat.zero_le _
  exact this _
theorem boundT_len (b : PRq.S59) (h : b.f1.size ≤ 1000000) : (boundT b).length ≤ 1000002 := by
  have h1 := sign_size b.f0
  have h2 := ba_size b.f1
  unfold boundT
  rw [List.length_append]
  split
  · simp only [List.length_nil]
    omega
  · omega
theorem rdT_nat (xs : List PRq.S59) (i : Nat) (h : i < xs.length) : PRq.rd_T59 xs (i : Int) = xs[i] := by
  unfold PRq.rd_T59
  rw [Int.toNat_natCast, List.getD_eq_getElem?_getD, List.getElem?_eq_getElem h]
  rfl
theorem rdL_nat (xs : List (List PRq.S59)) (i : Nat) (h : i < xs.length) : PRq.rd_L4 xs (i : Int) = xs[i] := by
  unfold PRq.rd_L4
  rw [Int.toNat_natCast, List.getD_eq_getElem?_getD, List.getElem?_eq_getElem h]
  rfl
theorem take_snocR {α : Type} (l : List α) (n : Nat) (h : n < l.length) : l.take (n + 1) = l.take n ++ [l[n]] := by rw [List.take_add_one, List.getElem?_eq_getElem h]; rfl
theorem rprint_l1 (l : List (List PRq.S59)) (x5 : List ByteArray) (n i : Int) (row : List PRq.S59) (r : ByteArray × Int) (hrow : row.length ≤ 16) (hb : ∀ b ∈ row, 0 ≤ b.f0 ∧ b.f0 ≤ 7 ∧ b.f1.size ≤ 1000000) (hx5 : x5.length ≤ 1000) (hi : 0 ≤ i) (hi2 : i ≤ 1000)
    (h : Ev (fun k => PRq.ranges_Print.l0 k signsL (x5 ++ [⟨(rowT row).toArray⟩]) l n (i + 1)) r) : ∀ (d j : Nat), j + d = row.length →
    Ev (fun k => PRq.ranges_Print.l1 k signsL x5 ((row.take j).map fun b => ⟨(boundT b).toArray⟩) l n i row (row.length : Int) (j : Int)) r := by
  intro d
  induction d with
  | zero =>
    intro j hj
    have e : j = row.length := by omega
    subst e
    refine Ev.step (f := fun k => PRq.ranges_Print.l0 k signsL (x5 ++ [⟨(rowT row).toArray⟩]) l n (i + 1)) (fun k => ?_) h
    have hj2 : strings_Join.f (row.map fun b => (⟨(boundT b).toArray⟩ : ByteArray)) ⟨#[44]⟩ = some ⟨(rowT row).toArray⟩ := by
      have := join_f (row.map boundT) 44 (by rw [List.length_map]; omega) (fun p hp => by
        obtain ⟨b, hb1, rfl⟩ := List.mem_map.1 hp
        have := boundT_len b (hb b hb1).2.2
        omega)
      rw [List.map_map] at this
      exact this
    simp only [PRq.ranges_Print.l1]
    rw [if_neg (by omega), List.take_length, hj2, Option.bind_some, if_pos (by omega), wrap_id (by omega) (by omega)]
  | succ d ih =>
    intro j hj
    have hjl : j < row.length := by omega
    have ih2 := ih (j + 1) (by omega)
    rw [take_snocR row j hjl, List.map_append] at ih2
    obtain ⟨h0, h7, hs⟩ := hb row[j] (List.getElem_mem hjl)
    refine Ev.step (fun k => ?_) ih2
    have hsz := ba_size (rdOf ByteArray.empty signsL row[j].f0)
    have hsg := sign_size row[j].f0
    have hsl : (signsL.length : Int) = 8 := rfl
    simp only [PRq.ranges_Print.l1]
    rw [if_pos (by omega), if_pos (by omega), if_pos (by omega), rdT_nat row j hjl, if_pos h0, if_pos (by omega), wrap_id (by omega) (by omega)]
    by_cases c0 : row[j].f0 = 0
    · rw [if_pos c0, if_pos (by rw [List.length_map, List.length_take]; omega)]
      congr 2
      simp only [List.map_cons, List.map_nil]
      congr 1
      unfold boundT
      rw [if_pos c0, List.append_nil]
    · rw [if_neg c0, if_pos (by omega), if_pos (by rw [List.length_map, List.length_take]; omega)]
      congr 2
      simp only [List.map_cons, List.map_nil]
      congr 1
      unfold boundT
      rw [if_neg c0]
      apply ByteArray.ext
      apply Array.ext'
      simp [ByteArray.data_append]
theorem rprint_l0 (l : List (List PRq.S59)) (hl : l.length ≤ 16) (hrow : ∀ row ∈ l, row.length ≤ 16 ∧ ∀ b ∈ row, 0 ≤ b.f0 ∧ b.f0 ≤ 7 ∧ b.f1.size ≤ 1000000) : ∀ (d i : Nat), i + d = l.length →
    Ev (fun k => PRq.ranges_Print.l0 k signsL ((l.take i).map fun row => ⟨(rowT row).toArray⟩) l (l.length : Int) (i : Int)) (⟨(joinOn 124 (l.map rowT)).toArray⟩, 0) := by
  intro d
  induction d with
  | zero =>
    intro i hi
    have e : i = l.length := by omega
    subst e
    have hj2 : strings_Join.f (l.map fun row => (⟨(rowT row).toArray⟩ : ByteArray)) ⟨#[124]⟩ = some ⟨(joinOn 124 (l.map rowT)).toArray⟩ := by
      have := join_f (l.map rowT) 124 (by rw [List.length_map]; omega) (fun p hp => by
        obtain ⟨row, hr, rfl⟩ := List.mem_map.1 hp
        have h1 := joinOn_le 44 1000002 (row.map boundT) (fun q hq => by
          obtain ⟨b, hb1, rfl⟩ := List.mem_map.1 hq
          exact boundT_len b ((hrow row hr).2 b hb1).2.2)
        rw [List.length_map] at h1
        have h2 : (1000002 + 1) * row.length ≤ (1000002 + 1) * 16 := Nat.mul_le_mul_left _ (hrow row hr).1
        unfold rowT
        omega)
      rw [List.map_map] at this
      exact this
    refine Ev.step (f := fun _ => some ((⟨(joinOn 124 (l.map rowT)).toArray⟩ : ByteArray), (0 : Int))) (fun k => ?_) (Ev.now _)
    simp only [PRq.ranges_Print.l0]
    rw [if_neg (by omega), List.take_length, hj2]
    rfl
  | succ d ih =>
    intro i hi
    have hil : i < l.length := by omega
    have ih2 := ih (i + 1) (by omega)
    rw [take_snocR l i hil, List.map_append] at ih2
    obtain ⟨h1, h2⟩ := hrow l[i] (List.getElem_mem hil)
    refine Ev.step (fun k => ?_) (rprint_l1 l ((l.take i).map fun row => ⟨(rowT row).toArray⟩) (l.length : Int) (i : Int) l[i] _ h1 h2 (by rw [List.length_map, List.length_take]; omega) (by omega) (by omega) ih2 l[i].length 0 (by omega))
    simp only [PRq.ranges_Print.l0]
    rw [if_pos (by omega), if_pos (by omega), if_pos (by omega), rdL_nat l i hil]
    rfl
theorem right_rows {l : List (List PRq.S59)} (h : rightV l = true) (hs : SmallR l) (hw : WfR l) : l.length ≤ 16 ∧ ∀ row ∈ l, row.length ≤ 16 ∧ ∀ b ∈ row, 0 ≤ b.f0 ∧ b.f0 ≤ 7 ∧ b.f1.size ≤ 1000000 := by
  unfold rightV at h
  obtain ⟨h1, h2⟩ := Bool.and_eq_true_iff.1 h
  refine ⟨of_decide_eq_true h1, fun row hr => ?_⟩
  have h3 := List.all_eq_true.1 h2 row hr
  unfold rowOk at h3
  simp only [Bool.and_eq_true, decide_eq_true_eq] at h3
  refine ⟨h3.1.2, fun b hb => ⟨hw row hr b hb, ?_, hs row hr b hb⟩⟩
  have h4 := List.all_eq_true.1 h3.2 b hb
  unfold mayB at h4
  split at h4
  · omega
  · simp only [Bool.and_eq_true, decide_eq_true_eq] at h4
    exact h4.1
theorem Print_ev (l : List (List PRq.S59)) (hs : SmallR l) (hw : WfR l) : Ev (fun k => PRq.ranges_Print.f k l) (printR l) := by
  unfold printR
  cases hr : rightV l with
  | false =>
    refine Ev.congr (f := fun _ => some ((⟨#[]⟩ : ByteArray), (2 : Int))) (fun k => ?_) (Ev.now _)
    unfold PRq.ranges_Print.f
    rw [right_f l hs, hr, Option.bind_some, if_neg (by decide)]
  | true =>
    rw [if_pos rfl]
    by_cases h0 : l.length = 0
    · rw [if_pos h0]
      refine Ev.congr (f := fun _ => some ((⟨#[42]⟩ : ByteArray), (0 : Int))) (fun k => ?_) (Ev.now _)
      unfold PRq.ranges_Print.f
      rw [right_f l hs, hr, Option.bind_some, if_pos rfl, if_pos (by omega)]
    · rw [if_neg h0]
      obtain ⟨h1, h2⟩ := right_rows hr hs hw
      refine Ev.congr (f := fun k => PRq.ranges_Print.l0 k signsL ((l.take 0).map fun row => (⟨(rowT row).toArray⟩ : ByteArray)) l (l.length : Int) ((0 : Nat) : Int)) (fun k => ?_) (rprint_l0 l h1 h2 l.length 0 (by omega))
      unfold PRq.ranges_Print.f
      have hf : strings_Fields.f (⟨#[42, 32, 61, 32, 33, 61, 32, 60, 32, 60, 61, 32, 62, 32, 62, 61, 32, 126]⟩ : ByteArray) = some signsL := by
        unfold strings_Fields.f
        exact if_pos rfl
      rw [right_f l hs, hr, Option.bind_some, if_pos rfl, if_neg (by omega), hf]
      rfl
end Go.Proofs.YtnbmdecehlljcaaGreatDoor
namespace Go.Proofs.YtnbmdecehlljcaaGreatDoor
open Go.RowKit Go.Lib Go.Proofs.YtnbmdecehlljcaaGreatDoorW.PrintWords Go.Proofs.YtnbmdecehlljcaaGreatDoorW.PrintLast Go.Proofs.YtnbmdecehlljcaaGreatDoorW.PrintMore
set_option linter.unusedVariables false
set_option linter.unusedSimpArgs false
def exR : List (List PRq.S59) := [[⟨6, ⟨#[49, 46, 50]⟩⟩, ⟨3, ⟨#[50]⟩⟩]]
def exN : List (List PRq.S59) := [[⟨7, ⟨#[49, 46, 50, 46, 51]⟩⟩]]
def exO : List (List PRq.S59) := [[⟨1, ⟨#[49]⟩⟩], [⟨5, ⟨#[51]⟩⟩]]
theorem exP1 : parseR ⟨#[62, 61, 49, 46, 50, 44, 60, 50]⟩ = some exR := by kernel_rfl
theorem exP2 : parseR ⟨#[126, 49, 46, 50, 46, 51]⟩ = some exN := by kernel_rfl
theorem exP3 : parseR ⟨#[61, 49, 124, 62, 51]⟩ = some exO := by kernel_rfl
theorem exP4 : parseR ⟨#[61, 48, 49]⟩ = none := by kernel_rfl
theorem exPr : printR exR = (⟨#[62, 61, 49, 46, 50, 44, 60, 50]⟩, 0) := by kernel_rfl
theorem exA1 : allowsR exR [49, 46, 57, 46, 57] = true := by kernel_rfl
theorem exA2 : allowsR exR [50] = false := by kernel_rfl
theorem exA3 : allowsR exR [49, 46, 50, 45, 114, 99, 49] = false := by kernel_rfl
theorem exA4 : allowsR exN [49, 46, 50, 46, 49, 48] = true := by kernel_rfl
theorem exA5 : allowsR exN [49, 46, 51] = false := by kernel_rfl
theorem exA6 : allowsR exO [51, 46, 49] = true := by kernel_rfl
theorem exA7 : allowsR exO [49, 46, 48] = false := by kernel_rfl
def exL : List ByteArray := [⟨#[49, 46, 50]⟩, ⟨#[50]⟩, ⟨#[49, 46, 57]⟩, ⟨#[49, 46, 57]⟩]
theorem exB1 : bestR exR exL 4 0 (-1) = 2 := by kernel_rfl
theorem exB2 : bestR exR [] 0 0 (-1) = -1 := by kernel_rfl
theorem smallR_of (l : List (List PRq.S59)) (h : (l.all fun row => row.all fun b => decide (b.f1.size ≤ 1000000) && decide (0 ≤ b.f0)) = true) : SmallR l ∧ WfR l := by
  constructor
  · intro row hr b hb
    have := List.all_eq_true.1 (List.all_eq_true.1 h row hr) b hb
    simp only [Bool.and_eq_true, decide_eq_true_eq] at this
    exact this.1
  · intro row hr b hb
    have := List.all_eq_true.1 (List.all_eq_true.1 h row hr) b hb
    simp only [Bool.and_eq_true, decide_eq_true_eq] at this
    exact this.2
theorem exRs : SmallR exR ∧ WfR exR := smallR_of exR (by decide)
theorem exNs : SmallR exN ∧ WfR exN := smallR_of exN (by decide)
theorem exOs : SmallR exO ∧ WfR exO := smallR_of exO (by decide)
def tithebarnlaw14_works.f : Option Bool := some true
theorem exParse (s : ByteArray) (hs : s.size ≤ 1000) (r : Option (List (List PRq.S59))) (h : parseR s = r) (w W : World) (hT : RTabs w) (hb : Below w.heap.size w W) : Calls Tryz.prog 22 #[.string s] W fun e w' =>
    ∃ v0_ : Value, e = .returned (.tuple #[v0_, .int .i64 (outF r).2]) ∧ Kd.S (Kd.slice 59 PRq.k59) 47 w' W.heap.size (fun _ => True) v0_ (outF r).1 ∧ Below W.heap.size W w' :=
  ranges_Parse.calls s _ _ W (hT.below hb) (by rw [Parse_prog s (by omega), h])
theorem exAllow (l : List (List PRq.S59)) (hl : SmallR l ∧ WfR l) (s : ByteArray) (hs : s.size ≤ 1000) (r : Bool) (h : allowsR l s.data.toList = r) (A : Option Addr) (c : Nat) (w W : World) (hT : RTabs w) (hb : Below w.heap.size w W) (hr : Kd.C (Kd.slice 59 PRq.k59) W A l.length l) (hc : l.length ≤ c) :
    Calls Tryz.prog 28 #[.slice A l.length c, .string s] W fun e w' => e = .returned (.bool r) ∧ Below W.heap.size W w' :=
  ranges_Allows.calls A c l s r W hr hc (hT.below hb) (by rw [Allows_f l s hl.1 hl.2 (by omega), h])
structure RHold (W : World) (A : Option Addr) (c : Nat) (l : List (List PRq.S59)) : Prop where
  r : Kd.C (Kd.slice 59 PRq.k59) W A l.length l
  c : l.length ≤ c
theorem RHold.below {W W' : World} {A : Option Addr} {c : Nat} {l : List (List PRq.S59)} (h : RHold W A c l) (hb : Below W.heap.size W W') : RHold W' A c l := ⟨Kd.C_below h.r hb, h.c⟩
set_option maxRecDepth 100000 in
set_option maxHeartbeats 8000000 in
theorem works14_any (w : World) (hT : RTabs w) : Calls Tryz.prog 21 #[] w fun e w' => e = .returned (.bool true) ∧ Below w.heap.size w w' := by
  have HT := Aside0.mk hT
  have HB : Aside0 (Below w.heap.size w w) := ⟨Below.refl _ _⟩
  have hu42 := Tryz.underlying42
  obtain ⟨kp, hkp⟩ := Print_ev exR exRs.1 exRs.2
  have PR := Aside0.mk ((hkp kp (Nat.le_refl _)).trans (congrArg some exPr))
  obtain ⟨kb, hkb⟩ := Best_ev exR exL exRs.1 exRs.2 (by decide) (by decide)
  have BE := Aside0.mk ((hkb kb (Nat.le_refl _)).trans (congrArg some exB1))
  obtain ⟨kc, hkc⟩ := Best_ev exR [] exRs.1 exRs.2 (by decide) (by decide)
  have BN := Aside0.mk ((hkc kc (Nat.le_refl _)).trans (congrArg some exB2))
  clear hT hkp hkb hkc
  go_enter Tryz.func21, Tryz.ntmps21
  go_wp2_with fail
  refine (exParse _ (by decide) _ exP1 w _ HT.out HB.out).mono ?_
  rintro e w1 ⟨v1, rfl, hv, hb⟩
  obtain ⟨A1, c1, rfl, hc1, hr1⟩ := Kd.S_reads hv
  have X1 := Aside0.mk (RHold.mk hr1 hc1)
  replace HB := Aside0.mk (HB.out.trans (hb.mono HB.out.size))
  clear hv hb hc1 hr1
  go_wp2_with fail
  refine (exParse _ (by decide) _ exP2 w _ HT.out HB.out).mono ?_
  rintro e w2 ⟨v2, rfl, hv, hb⟩
  obtain ⟨A2, c2, rfl, hc2, hr2⟩ := Kd.S_reads hv
  have X2 := Aside0.mk (RHold.mk hr2 hc2)
  replace X1 := Aside0.mk (X1.out.below hb)
  replace HB := Aside0.mk (HB.out.trans (hb.mono HB.out.size))
  clear hv hb hc2 hr2
  go_wp2_with fail
  refine (exParse _ (by decide) _ exP3 w _ HT.out HB.out).mono ?_
  rintro e w3 ⟨v3, rfl, hv, hb⟩
  obtain ⟨A3, c3, rfl, hc3, hr3⟩ := Kd.S_reads hv
  have X3 := Aside0.mk (RHold.mk hr3 hc3)
  replace X1 := Aside0.mk (X1.out.below hb)
  replace X2 := Aside0.mk (X2.out.below hb)
  replace HB := Aside0.mk (HB.out.trans (hb.mono HB.out.size))
  clear hv hb hc3 hr3
  go_wp2_with fail
  refine (exParse _ (by decide) _ exP4 w _ HT.out HB.out).mono ?_
  rintro e w4 ⟨v4, rfl, hv, hb⟩
  obtain ⟨A4, c4, rfl, _, _⟩ := Kd.S_reads hv
  replace X1 := Aside0.mk (X1.out.below hb)
  replace X2 := Aside0.mk (X2.out.below hb)
  replace X3 := Aside0.mk (X3.out.below hb)
  replace HB := Aside0.mk (HB.out.trans (hb.mono HB.out.size))
  clear hv hb
  go_wp2_with fail
  refine (PRq.ranges_Print.calls kp _ _ exR _ _ _ X1.out.r X1.out.c (HT.out.below HB.out) PR.out).mono ?_
  rintro e w5 ⟨rfl, hb⟩
  replace X1 := Aside0.mk (X1.out.below hb)
  replace X2 := Aside0.mk (X2.out.below hb)
  replace X3 := Aside0.mk (X3.out.below hb)
  replace HB := Aside0.mk (HB.out.trans (hb.mono HB.out.size))
  clear hb
  go_wp2_with fail
  refine (exAllow exR exRs _ (by decide) _ exA1 _ _ w _ HT.out HB.out X1.out.r X1.out.c).mono ?_
  rintro e w6 ⟨rfl, hb⟩
  replace X1 := Aside0.mk (X1.out.below hb)
  replace X2 := Aside0.mk (X2.out.below hb)
  replace X3 := Aside0.mk (X3.out.below hb)
  replace HB := Aside0.mk (HB.out.trans (hb.mono HB.out.size))
  clear hb
  go_wp2_with fail
  refine (exAllow exR exRs _ (by decide) _ exA2 _ _ w _ HT.out HB.out X1.out.r X1.out.c).mono ?_
  rintro e w7 ⟨rfl, hb⟩
  replace X1 := Aside0.mk (X1.out.below hb)
  replace X2 := Aside0.mk (X2.out.below hb)
  replace X3 := Aside0.mk (X3.out.below hb)
  replace HB := Aside0.mk (HB.out.trans (hb.mono HB.out.size))
  clear hb
  go_wp2_with fail
  refine (exAllow exR exRs _ (by decide) _ exA3 _ _ w _ HT.out HB.out X1.out.r X1.out.c).mono ?_
  rintro e w8 ⟨rfl, hb⟩
  replace X1 := Aside0.mk (X1.out.below hb)
  replace X2 := Aside0.mk (X2.out.below hb)
  replace X3 := Aside0.mk (X3.out.below hb)
  replace HB := Aside0.mk (HB.out.trans (hb.mono HB.out.size))
  clear hb
  go_wp2_with fail
  refine (exAllow exN exNs _ (by decide) _ exA4 _ _ w _ HT.out HB.out X2.out.r X2.out.c).mono ?_
  rintro e w9 ⟨rfl, hb⟩
  replace X1 := Aside0.mk (X1.out.below hb)
  replace X2 := Aside0.mk (X2.out.below hb)
  replace X3 := Aside0.mk (X3.out.below hb)
  replace HB := Aside0.mk (HB.out.trans (hb.mono HB.out.size))
  clear hb
  go_wp2_with fail
  refine (exAllow exN exNs _ (by decide) _ exA5 _ _ w _ HT.out HB.out X2.out.r X2.out.c).mono ?_
  rintro e w10 ⟨rfl, hb⟩
  replace X1 := Aside0.mk (X1.out.below hb)
  replace X2 := Aside0.mk (X2.out.below hb)
  replace X3 := Aside0.mk (X3.out.below hb)
  replace HB := Aside0.mk (HB.out.trans (hb.mono HB.out.size))
  clear hb
  go_wp2_with fail
  refine (exAllow exO exOs _ (by decide) _ exA6 _ _ w _ HT.out HB.out X3.out.r X3.out.c).mono ?_
  rintro e w11 ⟨rfl, hb⟩
  replace X1 := Aside0.mk (X1.out.below hb)
  replace X2 := Aside0.mk (X2.out.below hb)
  replace X3 := Aside0.mk (X3.out.below hb)
  replace HB := Aside0.mk (HB.out.trans (hb.mono HB.out.size))
  clear hb
  go_wp2_with fail
  refine (exAllow exO exOs _ (by decide) _ exA7 _ _ w _ HT.out HB.out X3.out.r X3.out.c).mono ?_
  rintro e w12 ⟨rfl, hb⟩
  replace X1 := Aside0.mk (X1.out.below hb)
  replace X2 := Aside0.mk (X2.out.below hb)
  replace X3 := Aside0.mk (X3.out.below hb)
  replace HB := Aside0.mk (HB.out.trans (hb.mono HB.out.size))
  clear hb
  go_wp2_with fail
  have hL := lit_stringsV exL (heap_alloc_new w12 (.cells (exL.map Value.string).toArray 9)) (by decide)
  have hba : Below w12.heap.size w12 (w12.alloc (.cells (exL.map Value.string).toArray 9)) := (Below.refl _ _).alloc (Nat.le_refl _) _
  replace X1 := Aside0.mk (X1.out.below hba)
  replace HB := Aside0.mk (HB.out.trans (hba.mono HB.out.size))
  clear hba
  refine (PRq.ranges_Best.calls kb _ _ exR _ 4 exL _ _ X1.out.r X1.out.c hL (by decide) (HT.out.below HB.out) BE.out).mono ?_
  rintro e w13 ⟨rfl, hb⟩
  replace X1 := Aside0.mk (X1.out.below hb)
  replace HB := Aside0.mk (HB.out.trans (hb.mono HB.out.size))
  clear hb hL
  go_wp2_with fail
  refine (PRq.ranges_Best.calls kc _ _ exR none 0 [] _ _ X1.out.r X1.out.c ⟨rfl, by decide, fun h => absurd h (Nat.lt_irrefl _)⟩ (by decide) (HT.out.below HB.out) BN.out).mono ?_
  rintro e w14 ⟨rfl, hb⟩
  replace HB := Aside0.mk (HB.out.trans (hb.mono HB.out.size))
  clear hb
  go_wp2
  go_ret
  exact ⟨rfl, HB.out⟩
theorem tithebarnlaw14_works.calls (r : Bool) (w : World) (hT : RTabs w) (h : tithebarnlaw14_works.f = some r) : Calls Tryz.prog 21 #[] w fun e w' => e = .returned (.bool r) ∧ Below w.heap.size w w' := by
  obtain rfl := Option.some.inj h
  exact works14_any w hT
end Go.Proofs.YtnbmdecehlljcaaGreatDoor
