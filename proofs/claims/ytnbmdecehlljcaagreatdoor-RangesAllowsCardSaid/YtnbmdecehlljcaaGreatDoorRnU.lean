/- Plain laws: the reference's reading of a version is the program's; VersionParse. Plain laws: the reference's Parse is the program's; VersionParse. Plain laws of ranges: the reference's reading of a range is the program's. -/
import Derived.Test.YtnbmdecehlljcaaGreatDoorPRqx5
import Derived.Test.YtnbmdecehlljcaaGreatDoorRnW
import Derived.Test.YtnbmdecehlljcaaGreatDoorPRqx9
import Derived.Test.YtnbmdecehlljcaaGreatDoorPRqx10
namespace Go.Proofs.YtnbmdecehlljcaaGreatDoor
open Go.RowKit Go.Lib Go.Proofs.YtnbmdecehlljcaaGreatDoorW.PrintWords Go.Proofs.YtnbmdecehlljcaaGreatDoorW.PrintLast Go.Proofs.YtnbmdecehlljcaaGreatDoorW.PrintMore PRq
set_option linter.unusedVariables false
set_option linter.unusedSimpArgs false
theorem bt_nat (s : ByteArray) (i : Nat) (h : i < s.data.toList.length) : bt s (i : Int) = ((s.data.toList[i]'h).toNat : Int) := by
  unfold bt
  have h2 : (i : Int).toNat < s.size := by have := Lib.size_eq s; simp; omega
  rw [dif_pos h2]
  congr 1
theorem ext_list (s : ByteArray) (i j : Nat) : (s.extract i j).data.toList = (s.data.toList.drop i).take (j - i) := by
  rw [ByteArray.data_extract, Array.toList_extract]
theorem isTagB_int (b : UInt8) : isTagB b = true ↔ (97 ≤ (b.toNat : Int) ∧ (b.toNat : Int) ≤ 122) ∨ (48 ≤ (b.toNat : Int) ∧ (b.toNat : Int) ≤ 57) := by
  unfold isTagB
  simp
  omega
theorem tag_l0 (s : ByteArray) (hs : s.size ≤ 1000000) : ∀ (d i : Nat), i + d = s.size → Ev (fun k => tithebarnref13_tag.l0 k s (i : Int)) ((s.data.toList.drop i).all isTagB && decide (s.size ≤ 16)) := by
  have hL : s.data.toList.length = s.size := (Lib.size_eq s).symm
  intro d
  induction d with
  | zero =>
    intro i hi
    rw [List.drop_eq_nil_of_le (by omega), List.all_nil, Bool.true_and]
    refine Ev.step (f := fun _ => some (decide (s.size ≤ 16))) (fun k => ?_) (Ev.now _)
    simp only [tithebarnref13_tag.l0]
    rw [if_neg (by omega)]
    congr 1
    exact decide_eq_decide.2 (by omega)
  | succ d ih =>
    intro i hi
    have hil : i < s.data.toList.length := by omega
    have hb := bt_nat s i hil
    rw [List.drop_eq_getElem_cons hil, List.all_cons]
    have ht := isTagB_int (s.data.toList[i]'hil)
    generalize s.data.toList[i]'hil = b at *
    by_cases hg : isTagB b = true
    · rw [hg, Bool.true_and]
      have hr := ht.1 hg
      refine Ev.step (fun k => ?_) (ih (i + 1) (by omega))
      simp only [tithebarnref13_tag.l0]
      rw [if_pos (by omega), if_pos (by omega), hb, wrap_id (by omega) (by omega)]
      by_cases c1 : (b.toNat : Int) < 97
      · rw [if_pos c1, if_neg (by omega), if_neg (by omega)]; rfl
      · rw [if_neg c1, if_neg (by omega)]; rfl
    · have hr : ¬ ((97 ≤ (b.toNat : Int) ∧ (b.toNat : Int) ≤ 122) ∨ (48 ≤ (b.toNat : Int) ∧ (b.toNat : Int) ≤ 57)) := fun h => hg (ht.2 h)
      rw [Bool.eq_false_iff.2 hg, Bool.false_and, Bool.false_and]
      refine Ev.step (f := fun _ => some false) (fun k => ?_) (Ev.now _)
      simp only [tithebarnref13_tag.l0]
      rw [if_pos (by omega), if_pos (by omega), hb]
      by_cases c1 : (b.toNat : Int) < 97
      · rw [if_pos c1]
        by_cases c2 : (b.toNat : Int) < 48
        · rw [if_pos c2]
        · rw [if_neg c2, if_pos (by omega)]
      · rw [if_neg c1, if_pos (by omega), if_neg (by omega), if_pos (by omega)]
theorem tag_ev (s : ByteArray) (hs : s.size ≤ 1000000) : Ev (fun k => tithebarnref13_tag.f k s) (tagB s.data.toList) := by
  have h := tag_l0 s hs s.size 0 (by omega)
  rw [List.drop_zero] at h
  have e : tagB s.data.toList = (s.data.toList.all isTagB && decide (s.size ≤ 16)) := by
    unfold tagB
    rw [Bool.and_comm, ← Lib.size_eq]
  rw [e]
  exact h
def nzB (s : ByteArray) : Bool := (s.data.toList == [48]) || (decide (0 < s.size) && (s.data.toList.head? != some 48))
theorem isDig_int (b : UInt8) : isDig b = true ↔ 48 ≤ (b.toNat : Int) ∧ (b.toNat : Int) ≤ 57 := by
  unfold isDig
  simp
  omega
theorem number_l0 (s : ByteArray) (hs : s.size ≤ 1000000) : ∀ (d i acc : Nat), i + d = s.size → i ≤ 9 → acc < 10 ^ i →
    Ev (fun k => tithebarnref13_number.l0 k s (acc : Int) (i : Int)) (if ((s.data.toList.drop i).all isDig && decide (s.size ≤ 9)) = true then ((valF acc (s.data.toList.drop i) : Int), nzB s) else (0, false)) := by
  have hL : s.data.toList.length = s.size := (Lib.size_eq s).symm
  intro d
  induction d with
  | zero =>
    intro i acc hi h9 ha
    rw [List.drop_eq_nil_of_le (by omega), List.all_nil, Bool.true_and, decide_eq_true (by omega), if_pos rfl]
    refine Ev.step (f := fun _ => some ((acc : Int), nzB s)) (fun k => ?_) (Ev.now _)
    simp only [tithebarnref13_number.l0]
    rw [if_neg (by omega), ByteArray.toList_eq]
    unfold nzB
    by_cases c1 : s.data.toList = [48]
    · rw [if_pos c1, c1]; rfl
    · rw [if_neg c1]
      have c1' : (s.data.toList == [48]) = false := by simpa using c1
      rw [c1', Bool.false_or]
      by_cases c2 : (s.size : Int) > 0
      · rw [if_pos c2, if_pos c2]
        have hb := bt_nat s 0 (by omega)
        have e : bt s 0 = ((s.data.toList[0]'(by omega)).toNat : Int) := hb
        rw [e, decide_eq_true (by omega), Bool.true_and]
        have hh : s.data.toList.head? = some (s.data.toList[0]'(by omega)) := by
          rw [List.head?_eq_getElem?, List.getElem?_eq_getElem (by omega)]
        rw [hh]
        generalize s.data.toList[0]'(by omega) = b
        congr 2
        rw [Bool.eq_iff_iff]
        simp only [bne_iff_ne, ne_eq, Option.some.injEq]
        constructor
        · intro h hb; apply h; rw [hb]; rfl
        · intro h hb; apply h; exact UInt8.toNat_inj.1 (by have : (48 : UInt8).toNat = 48 := rfl; omega)
      · rw [if_neg c2, decide_eq_false (by omega), Bool.false_and]
  | succ d ih =>
    intro i acc hi h9 ha
    have hil : i < s.data.toList.length := by omega
    have hb := bt_nat s i hil
    rw [List.drop_eq_getElem_cons hil, List.all_cons]
    have ht := isDig_int (s.data.toList[i]'hil)
    generalize s.data.toList[i]'hil = b at *
    by_cases hg : isDig b = true
    · have hr := ht.1 hg
      rw [hg, Bool.true_and]
      by_cases h8 : i = 9
      · rw [decide_eq_false (show ¬ s.size ≤ 9 by omega), Bool.and_false, if_neg (by decide)]
        refine Ev.step (f := fun _ => some (0, false)) (fun k => ?_) (Ev.now _)
        simp only [tithebarnref13_number.l0]
        rw [if_pos (by omega), if_pos (by omega), hb, if_neg (by omega), if_neg (by omega), if_pos (by omega)]
      · have hp : 10 ^ (i + 1) = 10 ^ i * 10 := Nat.pow_succ ..
        have hp8 : 10 ^ i ≤ 10 ^ 8 := Nat.pow_le_pow_right (by omega) (by omega)
        have := ih (i + 1) (acc * 10 + (b.toNat - 48)) (by omega) (by omega) (by omega)
        rw [valF_cons]
        refine Ev.step (fun k => ?_) this
        simp only [tithebarnref13_number.l0]
        rw [if_pos (by omega), if_pos (by omega), hb, if_neg (by omega), if_neg (by omega), if_neg (by omega), wrap_id (x := (acc : Int) * 10) (by omega) (by omega), wrap_id (x := (acc : Int) * 10 + _) (by omega) (by omega), wrap_id (x := (i : Int) + 1) (by omega) (by omega)]
        congr 1
        omega
    · have hr : ¬ (48 ≤ (b.toNat : Int) ∧ (b.toNat : Int) ≤ 57) := fun h => hg (ht.2 h)
      rw [Bool.eq_false_iff.2 hg, Bool.false_and, Bool.false_and, if_neg (by decide)]
      refine Ev.step (f := fun _ => some (0, false)) (fun k => ?_) (Ev.now _)
      simp only [tithebarnref13_number.l0]
      rw [if_pos (by omega), if_pos (by omega), hb]
      by_cases c1 : (b.toNat : Int) < 48
      · rw [if_pos c1]
      · rw [if_neg c1, if_pos (by omega)]
theorem number_ev (s : ByteArray) (hs : s.size ≤ 1000000) : ∃ v : Int, Ev (fun k => tithebarnref13_number.f k s) (v, canonB s.data.toList) ∧ (canonB s.data.toList = true → v = valF 0 s.data.toList) := by
  have h := number_l0 s hs s.size 0 0 (by omega) (by omega) (by decide)
  rw [List.drop_zero] at h
  have hL : s.data.toList.length = s.size := (Lib.size_eq s).symm
  by_cases c : (s.data.toList.all isDig && decide (s.size ≤ 9)) = true
  · rw [if_pos c] at h
    have e : nzB s = canonB s.data.toList := by
      simp only [Bool.and_eq_true, decide_eq_true_eq] at c
      unfold nzB canonB
      rw [c.1, hL, decide_eq_true c.2, Bool.true_and, Bool.and_true]
      cases hl : s.data.toList with
      | nil => rw [hl] at hL; simp at hL; simp [← hL]
      | cons x r =>
        rw [hl] at hL
        simp only [List.length_cons] at hL
        rw [decide_eq_true (show 0 < s.size by omega), decide_eq_true (show 1 ≤ s.size by omega)]
        simp
    rw [e] at h
    exact ⟨_, h, fun _ => rfl⟩
  · rw [if_neg c] at h
    have e : canonB s.data.toList = false := by
      rw [Bool.eq_false_iff]
      intro hc
      apply c
      unfold canonB at hc
      simp only [Bool.and_eq_true, decide_eq_true_eq] at hc ⊢
      exact ⟨hc.1.1.1, by omega⟩
    rw [e]
    exact ⟨_, h, fun h => by cases h⟩
end Go.Proofs.YtnbmdecehlljcaaGreatDoor
namespace Go.Proofs.YtnbmdecehlljcaaGreatDoor
open Go.RowKit Go.Lib Go.Proofs.YtnbmdecehlljcaaGreatDoorW.PrintWords Go.Proofs.YtnbmdecehlljcaaGreatDoorW.PrintLast Go.Proofs.YtnbmdecehlljcaaGreatDoorW.PrintMore PRq
set_option linter.unusedVariables false
set_option linter.unusedSimpArgs false
def finishP (nums : List Int) (ps : List (List UInt8)) (tag : ByteArray) : List Int × ByteArray × Int := match partsNums ps with
  | none => ([], ⟨#[]⟩, 130)
  | some ns => if (nums ++ ns).length > 8 then ([], ⟨#[]⟩, 130) else (nums ++ ns, tag, 0)
theorem finish_cons (nums : List Int) (p : List UInt8) (r : List (List UInt8)) (tag : ByteArray) (u : Nat) (h : progNum p = some u) : finishP nums (p :: r) tag = finishP (nums ++ [(u : Int)]) r tag := by
  unfold finishP
  conv => lhs; rw [partsNums]
  rw [h]
  cases partsNums r with
  | none => rfl
  | some l => simp
theorem finish_bad (nums : List Int) (p : List UInt8) (r : List (List UInt8)) (tag : ByteArray) (h : progNum p = none) : finishP nums (p :: r) tag = ([], ⟨#[]⟩, 130) := by
  unfold finishP
  rw [partsNums, h]
theorem take_snoc {α : Type} (l : List α) (n : Nat) (h : n < l.length) : l.take (n + 1) = l.take n ++ [l[n]] := by
  rw [List.take_add_one, List.getElem?_eq_getElem h]
  rfl
/-- One part, read: the road behind the part's end. -/
theorem parse_part (s tag : ByteArray) (E i from_ : Nat) (nums : List Int) (hs : s.size ≤ 100000) (hi : i ≤ s.size) (hf : from_ ≤ i) (hn : nums.length ≤ i)
    (R : List Int × ByteArray × Int) (p : List UInt8) (hp : p = (s.data.toList.drop from_).take (i - from_))
    (hgood : ∀ u : Nat, progNum p = some u → Ev (fun k => tithebarnref13_Parse.l1 k s (E : Int) ((i + 1 : Nat) : Int) ((i + 1 : Nat) : Int) (nums ++ [(u : Int)]) tag) R)
    (hbad : progNum p = none → R = ([], ⟨#[]⟩, 130)) :
    Ev (fun k => tithebarnref13_Parse.j3 k s (E : Int) (from_ : Int) (i : Int) false nums tag) R := by
  have he := ext_list s from_ i
  have hsz : (s.extract from_ i).size ≤ 1000000 := by
    rw [Lib.size_eq, he, List.length_take, List.length_drop, ← Lib.size_eq]
    omega
  obtain ⟨v, hv, hvc⟩ := number_ev (s.extract from_ i) hsz
  rw [he, ← hp] at hv hvc
  refine Ev.step (f := fun k => (tithebarnref13_number.f k (s.extract from_ i)).bind fun bt104 => (if bt104.2 = true then (if nums.length < 17592186044416 then (tithebarnref13_Parse.l1 k s (E : Int) ((i + 1 : Nat) : Int) ((i + 1 : Nat) : Int) (nums ++ [bt104.1]) tag) else (none)) else (some (([] : List Int), (⟨#[]⟩ : ByteArray), 130)))) (fun k => ?_) (Ev.bind hv ?_)
  · simp only [tithebarnref13_Parse.j3]
    rw [if_neg (by decide), if_pos (by omega), if_pos (by omega), if_pos (by omega), wrap_id (by omega) (by omega)]
    rfl
  · by_cases hc : canonB p = true
    · have hpn : progNum p = some (valF 0 p) := by rw [progNum_eq, if_pos hc]
      refine Ev.ite_pos hc (Ev.ite_pos (by omega) ?_)
      have := hgood _ hpn
      rw [← hvc hc] at this
      exact this
    · have hpn : progNum p = none := by rw [progNum_eq, if_neg hc]
      refine Ev.ite_neg hc ?_
      rw [hbad hpn]
      exact Ev.now _
theorem parse_done (s tag : ByteArray) (E : Nat) (hs : s.size ≤ 100000) (hE : E ≤ s.size) (nums : List Int) : Ev (fun k => tithebarnref13_Parse.l1 k s (E : Int) ((E + 1 : Nat) : Int) ((E + 1 : Nat) : Int) nums tag) (finishP nums [] tag) := by
  refine Ev.step (f := fun _ => some (finishP nums [] tag)) (fun k => ?_) (Ev.now _)
  simp only [tithebarnref13_Parse.l1]
  rw [if_neg (by omega)]
  unfold finishP
  simp only [partsNums, List.append_nil]
  by_cases h : nums.length > 8
  · rw [if_pos (by omega), if_pos h]
  · rw [if_neg (by omega), if_neg h]
theorem parse_l1 (s tag : ByteArray) (E : Nat) (hs : s.size ≤ 100000) (hE : E ≤ s.size) : ∀ (d i from_ : Nat) (nums : List Int), i + d = E → from_ ≤ i → nums.length ≤ i → (46 : UInt8) ∉ ((s.data.toList.take E).drop from_).take (i - from_) →
    Ev (fun k => tithebarnref13_Parse.l1 k s (E : Int) (from_ : Int) (i : Int) nums tag) (finishP nums (splitOn 46 ((s.data.toList.take E).drop from_)) tag) := by
  have hL : s.data.toList.length = s.size := (Lib.size_eq s).symm
  have haL : (s.data.toList.take E).length = E := by rw [List.length_take]; omega
  have hpe : ∀ i from_, i ≤ E → from_ ≤ i → (s.data.toList.drop from_).take (i - from_) = ((s.data.toList.take E).drop from_).take (i - from_) := by
    intro i from_ h1 h2
    rw [List.drop_take, List.take_take]
    congr 1
    omega
  intro d
  induction d with
  | zero =>
    intro i from_ nums hi hf hn h46
    have hiE : i = E := by omega
    subst hiE
    have hall : ((s.data.toList.take i).drop from_).take (i - from_) = (s.data.toList.take i).drop from_ := List.take_of_length_le (by rw [List.length_drop, haL]; omega)
    rw [hall] at h46
    refine Ev.step (f := fun k => tithebarnref13_Parse.j3 k s (i : Int) (from_ : Int) (i : Int) false nums tag) (fun k => ?_) (parse_part s tag i i from_ nums hs (by omega) hf hn _ _ rfl ?_ ?_)
    · simp only [tithebarnref13_Parse.l1]
      rw [if_pos (by omega), if_neg (by omega)]
    · intro u hu
      rw [hpe i from_ (Nat.le_refl _) hf, hall] at hu
      rw [splitOn_none 46 _ h46, finish_cons _ _ _ _ _ hu]
      exact parse_done s tag i hs hE _
    · intro hu
      rw [hpe i from_ (Nat.le_refl _) hf, hall] at hu
      rw [splitOn_none 46 _ h46]
      exact finish_bad _ _ _ _ hu
  | succ d ih =>
    intro i from_ nums hi hf hn h46
    have hil : i < s.data.toList.length := by omega
    have hb := bt_nat s i hil
    have hia : i < (s.data.toList.take E).length := by omega
    have hget : (s.data.toList.take E)[i]'hia = s.data.toList[i]'hil := by simp
    have hdf : i - from_ < ((s.data.toList.take E).drop from_).length := by rw [List.length_drop]; omega
    have hgf : ((s.data.toList.take E).drop from_)[i - from_]'hdf = s.data.toList[i]'hil := by
      rw [← hget, List.getElem_drop]
      congr 1
      omega
    by_cases hc : s.data.toList[i]'hil = 46
    · have hflag : ((bt s (i : Int)) != 46) = false := by rw [hb, hc]; rfl
      have hsplit : (s.data.toList.take E).drop from_ = ((s.data.toList.take E).drop from_).take (i - from_) ++ 46 :: (s.data.toList.take E).drop (i + 1) := by
        conv => lhs; rw [← List.take_append_drop (i - from_) ((s.data.toList.take E).drop from_)]
        congr 1
        rw [List.drop_eq_getElem_cons hdf, hgf, hc, List.drop_drop]
        congr 2
        omega
      refine Ev.step (f := fun k => tithebarnref13_Parse.j3 k s (E : Int) (from_ : Int) (i : Int) false nums tag) (fun k => ?_) (parse_part s tag E i from_ nums hs (by omega) hf hn _ _ rfl ?_ ?_)
      · simp only [tithebarnref13_Parse.l1]
        rw [if_pos (by omega), if_pos (by omega), if_pos (by omega), if_pos (by omega), hflag]
      · intro u hu
        rw [hpe i from_ (by omega) hf] at hu
        rw [hsplit, splitOn_app 46 _ _ h46, finish_cons _ _ _ _ _ hu]
        exact ih (i + 1) (i + 1) (nums ++ [(u : Int)]) (by omega) (Nat.le_refl _) (by simp; omega) (by simp)
      · intro hu
        rw [hpe i from_ (by omega) hf] at hu
        rw [hsplit, splitOn_app 46 _ _ h46]
        exact finish_bad _ _ _ _ hu
    · have hflag : ((bt s (i : Int)) != 46) = true := by
        rw [hb]
        simp only [bne_iff_ne, ne_eq]
        intro h
        apply hc
        have e2 : (46 : UInt8).toNat = 46 := rfl
        exact UInt8.toNat_inj.1 (by omega)
      have hst : ((s.data.toList.take E).drop from_).take (i + 1 - from_) = ((s.data.toList.take E).drop from_).take (i - from_) ++ [s.data.toList[i]'hil] := by
        rw [show i + 1 - from_ = (i - from_) + 1 by omega, take_snoc _ _ hdf, hgf]
      refine Ev.step (f := fun k => tithebarnref13_Parse.j3 k s (E : Int) (from_ : Int) (i : Int) true nums tag) (fun k => ?_) (Ev.step (f := fun k => tithebarnref13_Parse.l1 k s (E : Int) (from_ : Int) ((i + 1 : Nat) : Int) nums tag) (fun k => ?_) (ih (i + 1) from_ nums (by omega) (by omega) (by omega) ?_))
      · simp only [tithebarnref13_Parse.l1]
        rw [if_pos (by omega), if_pos (by omega), if_pos (by omega), if_pos (by omega), hflag]
      · simp only [tithebarnref13_Parse.j3]
        rw [if_pos trivial, wrap_id (by omega) (by omega)]
        rfl
      · rw [hst]
        simp only [List.mem_append, List.mem_singleton, not_or]
        exact ⟨h46, fun h => hc h.symm⟩
theorem finish_parse (s : ByteArray) (a t : List UInt8) (f : Bool) (hc : cutOn 45 s.data.toList = (a, t, f)) (hok : ¬ (f && t.isEmpty || !tagB t) = true) : finishP [] (splitOn 46 a) ⟨t.toArray⟩ = tripleV s := by
  unfold tripleV parseV finishP
  rw [hc]
  simp only
  rw [if_neg hok]
  cases hp : partsNums (splitOn 46 a) with
  | none =>
    simp only
    split <;> rfl
  | some ns =>
    have hl := (partsNums_some hp).2.1
    simp only [List.nil_append]
    by_cases h8 : 8 < (splitOn 46 a).length
    · rw [if_pos (by omega), if_pos h8]; rfl
    · rw [if_neg (by omega), if_neg h8]; rfl
theorem triple_bad (s : ByteArray) (a t : List UInt8) (f : Bool) (hc : cutOn 45 s.data.toList = (a, t, f)) (hbad : (f && t.isEmpty || !tagB t) = true) : tripleV s = ([], ⟨#[]⟩, 130) := by
  unfold tripleV parseV
  rw [hc]
  simp only
  rw [if_pos hbad]
  rfl
theorem parse_end (s : ByteArray) (hs : s.size ≤ 100000) : Ev (fun k => tithebarnref13_Parse.l0 k s ((cutOn 45 s.data.toList).1.length : Int) (-1)) (tripleV s) := by
  have hL : s.data.toList.length = s.size := (Lib.size_eq s).symm
  have hb := cutOn_back 45 s.data.toList
  obtain ⟨⟨a, t, f⟩, hc⟩ : ∃ q, cutOn 45 s.data.toList = q := ⟨_, rfl⟩
  rw [hc] at hb ⊢
  simp only at hb ⊢
  have hj : ∀ (tag : ByteArray), tag = ⟨t.toArray⟩ → (¬ (f && t.isEmpty || !tagB t) = true) → a.length ≤ s.size → a = s.data.toList.take a.length → Ev (fun k => tithebarnref13_Parse.j1 k s (a.length : Int) tag) (tripleV s) := by
    intro tag ht hok hal hat
    have h1 := parse_l1 s tag a.length hs hal a.length 0 0 [] (by omega) (Nat.le_refl _) (by simp) (by simp)
    rw [List.drop_zero, ← hat, ht, finish_parse s a t f hc hok] at h1
    refine Ev.step (f := fun k => tithebarnref13_Parse.l1 k s (a.length : Int) ((0 : Nat) : Int) ((0 : Nat) : Int) [] tag) (fun k => ?_) (by rw [ht]; exact h1)
    simp only [tithebarnref13_Parse.j1]
    rfl
  cases f with
  | true =>
    simp only [if_true] at hb
    have hlen : s.data.toList.length = a.length + (t.length + 1) := by rw [hb.1]; simp
    have hat : a = s.data.toList.take a.length := by conv => rhs; rw [hb.1]; simp
    have hdt : s.data.toList.drop (a.length + 1) = t := by rw [hb.1, List.drop_append]; simp
    have hx := ext_list s (a.length + 1) s.size
    rw [hdt, List.take_of_length_le (by omega)] at hx
    have hxb : s.extract (a.length + 1) s.size = ⟨t.toArray⟩ := ba_eq.2 hx
    have hstep : ∀ k, tithebarnref13_Parse.l0 (k + 1) s (a.length : Int) (-1) = if t = [] then some (([] : List Int), (⟨#[]⟩ : ByteArray), 130) else ((tithebarnref13_tag.f k ⟨t.toArray⟩).bind fun t103 => (if t103 = true then (tithebarnref13_Parse.j1 k s (a.length : Int) ⟨t.toArray⟩) else (some (([] : List Int), (⟨#[]⟩ : ByteArray), 130)))) := by
      intro k
      simp only [tithebarnref13_Parse.l0]
      rw [if_neg (by omega), if_pos (by omega), wrap_id (by omega) (by omega), if_pos (by omega), if_pos (by omega)]
      have e : ((a.length : Int) + 1).toNat = a.length + 1 := by omega
      rw [e, hxb, ByteArray.toList_eq]
    by_cases ht : t = []
    · rw [triple_bad s a t true hc (by rw [ht]; rfl)]
      refine Ev.step (f := fun _ => some (([] : List Int), (⟨#[]⟩ : ByteArray), 130)) (fun k => ?_) (Ev.now _)
      rw [hstep, if_pos ht]
    · have htg := tag_ev (⟨t.toArray⟩ : ByteArray) (by simp [ByteArray.size]; omega)
      refine Ev.step (fun k => by rw [hstep, if_neg ht]) (Ev.bind htg ?_)
      show Ev (fun n => if tagB t = true then _ else _) _
      by_cases hg : tagB t = true
      · refine Ev.ite_pos hg (hj _ rfl (by rw [hg]; cases t with | nil => exact absurd rfl ht | cons x r => simp) (by omega) hat)
      · refine Ev.ite_neg hg ?_
        rw [triple_bad s a t true hc (by simp [hg])]
        exact Ev.now _
  | false =>
    have ht := hb.2 rfl
    subst ht
    have hla : s.data.toList = a := by simpa using hb.1
    refine Ev.step (f := fun k => tithebarnref13_Parse.j1 k s (a.length : Int) ⟨#[]⟩) (fun k => ?_) (hj ⟨#[]⟩ rfl (by decide) (by rw [← hla, hL]; exact Nat.le_refl _) (by rw [hla, List.take_length]))
    have : a.length = s.size := by rw [← hla, hL]
    simp only [tithebarnref13_Parse.l0]
    rw [if_neg (by omega), if_neg (by omega)]
theorem parse_l0 (s : ByteArray) (hs : s.size ≤ 100000) : ∀ (i : Nat), i ≤ s.size → Ev (fun k => tithebarnref13_Parse.l0 k s ((i + (cutOn 45 (s.data.toList.drop i)).1.length : Nat) : Int) ((i : Int) - 1)) (tripleV s) := by
  have hL : s.data.toList.length = s.size := (Lib.size_eq s).symm
  intro i
  induction i with
  | zero =>
    intro _
    have := parse_end s hs
    simpa using this
  | succ i ih =>
    intro hi
    have hil : i < s.data.toList.length := by omega
    have hb := bt_nat s i hil
    have ih := ih (by omega)
    rw [List.drop_eq_getElem_cons hil] at ih
    have e1 : ((i + 1 : Nat) : Int) - 1 = (i : Int) := by omega
    rw [e1]
    by_cases hc : s.data.toList[i]'hil = 45
    · rw [hc, cutOn, if_pos rfl] at ih
      refine Ev.step (fun k => ?_) ih
      simp only [tithebarnref13_Parse.l0]
      rw [if_pos (by omega), if_pos (by omega), if_pos (by omega), hb, hc, if_pos (show ((UInt8.toNat 45 : Nat) : Int) = 45 from rfl), wrap_id (by omega) (by omega)]
      simp
    · rw [cutOn, if_neg hc] at ih
      refine Ev.step (fun k => ?_) ih
      have hne : ¬ ((s.data.toList[i]'hil).toNat : Int) = 45 := by
        intro h
        apply hc
        have e2 : (45 : UInt8).toNat = 45 := rfl
        exact UInt8.toNat_inj.1 (by omega)
      simp only [tithebarnref13_Parse.l0]
      rw [if_pos (by omega), if_pos (by omega), if_pos (by omega), hb, if_neg hne, wrap_id (by omega) (by omega)]
      congr 1
      simp only [List.length_cons]
      omega
theorem parse_ev (s : ByteArray) (hs : s.size ≤ 100000) : Ev (fun k => tithebarnref13_Parse.f k s) (tripleV s) := by
  have hL : s.data.toList.length = s.size := (Lib.size_eq s).symm
  have h := parse_l0 s hs s.size (Nat.le_refl _)
  rw [List.drop_eq_nil_of_le (by omega)] at h
  refine Ev.congr (fun k => ?_) h
  unfold tithebarnref13_Parse.f
  rw [wrap_id (by omega) (by omega)]
  rfl
end Go.Proofs.YtnbmdecehlljcaaGreatDoor
namespace Go.Proofs.YtnbmdecehlljcaaGreatDoor
open Go.RowKit Go.Lib Go.Proofs.YtnbmdecehlljcaaGreatDoorW.PrintWords Go.Proofs.YtnbmdecehlljcaaGreatDoorW.PrintLast Go.Proofs.YtnbmdecehlljcaaGreatDoorW.PrintMore PRq
set_option linter.unusedVariables false
set_option linter.unusedSimpArgs false
def Small5 (l : List (List PRq.S59)) : Prop := ∀ row ∈ l, ∀ b ∈ row, b.f1.size ≤ 100000
theorem may_l1 (l : List (List PRq.S59)) (hl : l.length ≤ 1000000) (i : Nat) (hi : i < l.length) (hr : l[i].length ≤ 1000000) (hs : ∀ b ∈ l[i], b.f1.size ≤ 100000) (c : Bool) (h : Ev (fun k => tithebarnref14_May.l0 k l ((i + 1 : Nat) : Int)) c) : ∀ (d j : Nat), j + d = l[i].length →
    Ev (fun k => tithebarnref14_May.l1 k l (i : Int) (j : Int)) ((l[i].drop j).all mayB && c) := by
  have hrd := rdL_nat l i hi
  intro d
  induction d with
  | zero =>
    intro j hj
    have e : j = l[i].length := by omega
    subst e
    rw [List.drop_length, List.all_nil, Bool.true_and]
    refine Ev.step (fun k => ?_) h
    simp only [tithebarnref14_May.l1]
    rw [if_pos (by omega), if_pos (by omega), hrd, if_neg (by omega), wrap_id (by omega) (by omega)]
    rfl
  | succ d ih =>
    intro j hj
    have hjl : j < l[i].length := by omega
    have hb := rdT_nat l[i] j hjl
    have hpe := parse_ev l[i][j].f1 (hs _ (List.getElem_mem hjl))
    have ih2 := ih (j + 1) (by omega)
    rw [List.drop_eq_getElem_cons hjl, List.all_cons, Bool.and_assoc]
    refine Ev.step (f := fun k => (tithebarnref13_Parse.f k l[i][j].f1).bind fun bt134 => (if l[i][j].f0 > 7 then (some false) else (if l[i][j].f0 = 0 then (if l[i][j].f1.toList = ([] : List UInt8) then (tithebarnref14_May.l1 k l (i : Int) ((j + 1 : Nat) : Int)) else (some false)) else (if bt134.2.2 = 0 then (tithebarnref14_May.l1 k l (i : Int) ((j + 1 : Nat) : Int)) else (some false))))) (fun k => ?_) (Ev.bind hpe ?_)
    · simp only [tithebarnref14_May.l1]
      rw [if_pos (by omega), if_pos (by omega), hrd, if_pos (by omega), if_pos (by omega), hb, wrap_id (by omega) (by omega)]
      rfl
    · generalize l[i][j] = b at *
      unfold mayB
      by_cases c7 : b.f0 > 7
      · refine Ev.ite_pos c7 ?_
        rw [if_neg (by omega), decide_eq_false (by omega), Bool.false_and, Bool.false_and]
        exact Ev.now _
      · refine Ev.ite_neg c7 ?_
        by_cases c0 : b.f0 = 0
        · refine Ev.ite_pos c0 ?_
          rw [if_pos c0, ByteArray.toList_eq]
          by_cases ce : b.f1.data.toList = []
          · rw [show (b.f1.data.toList == ([] : List UInt8)) = true from beq_iff_eq.2 ce, Bool.true_and]
            exact Ev.ite_pos ce ih2
          · rw [show (b.f1.data.toList == ([] : List UInt8)) = false from beq_eq_false_iff_ne.2 ce, Bool.false_and]
            exact Ev.ite_neg ce (Ev.now _)
        · refine Ev.ite_neg c0 ?_
          rw [if_neg c0, decide_eq_true (by omega), Bool.true_and]
          have he : (tripleV b.f1).2.2 = 0 ↔ okC b.f1.data.toList = true := ok_err' b.f1.data.toList
          by_cases ho : okC b.f1.data.toList = true
          · rw [ho, Bool.true_and]
            exact Ev.ite_pos (he.2 ho) ih2
          · refine Ev.ite_neg (fun e => ho (he.1 e)) ?_
            rw [Bool.not_eq_true] at ho
            rw [ho, Bool.false_and]
            exact Ev.now _
theorem may_l0 (l : List (List PRq.S59)) (hl : l.length ≤ 1000000) (hr : ∀ row ∈ l, row.length ≤ 1000000) (hs : Small5 l) : ∀ (d i : Nat), i + d = l.length →
    Ev (fun k => tithebarnref14_May.l0 k l (i : Int)) ((l.drop i).all rowOk && decide (l.length ≤ 16)) := by
  intro d
  induction d with
  | zero =>
    intro i hi
    have e : i = l.length := by omega
    subst e
    rw [List.drop_length, List.all_nil, Bool.true_and]
    refine Ev.step (f := fun _ => some (decide (l.length ≤ 16))) (fun k => ?_) (Ev.now _)
    simp only [tithebarnref14_May.l0]
    rw [if_neg (by omega)]
    congr 1
    simp only [decide_eq_decide]
    omega
  | succ d ih =>
    intro i hi
    have hil : i < l.length := by omega
    have hrd := rdL_nat l i hil
    have hm := List.getElem_mem hil
    have h1 := may_l1 l hl i hil (hr _ hm) (hs _ hm) _ (ih (i + 1) (by omega)) l[i].length 0 (by omega)
    rw [List.drop_zero] at h1
    rw [List.drop_eq_getElem_cons hil, List.all_cons, Bool.and_assoc]
    unfold rowOk at h1 ⊢
    by_cases c1 : l[i].length < 1
    · rw [decide_eq_false (show ¬ 1 ≤ l[i].length by omega), Bool.false_and, Bool.false_and, Bool.false_and]
      refine Ev.step (f := fun k => tithebarnref14_May.j1 k l (i : Int) true) (fun k => ?_) (Ev.step (f := fun _ => some false) (fun k => ?_) (Ev.now _))
      · simp only [tithebarnref14_May.l0]
        rw [if_pos (by omega), if_pos (by omega), hrd, if_pos (by omega)]
      · simp only [tithebarnref14_May.j1]
        rfl
    · rw [decide_eq_true (show 1 ≤ l[i].length by omega), Bool.true_and]
      by_cases c2 : l[i].length > 16
      · rw [decide_eq_false (show ¬ l[i].length ≤ 16 by omega), Bool.false_and, Bool.false_and]
        refine Ev.step (f := fun k => tithebarnref14_May.j1 k l (i : Int) true) (fun k => ?_) (Ev.step (f := fun _ => some false) (fun k => ?_) (Ev.now _))
        · simp only [tithebarnref14_May.l0]
          rw [if_pos (by omega), if_pos (by omega), hrd, if_neg (by omega), decide_eq_true (by omega)]
        · simp only [tithebarnref14_May.j1]
          rfl
      · rw [decide_eq_true (show l[i].length ≤ 16 by omega), Bool.true_and]
        refine Ev.step (f := fun k => tithebarnref14_May.j1 k l (i : Int) false) (fun k => ?_) (Ev.step (fun k => ?_) h1)
        · simp only [tithebarnref14_May.l0]
          rw [if_pos (by omega), if_pos (by omega), hrd, if_neg (by omega), decide_eq_false (by omega)]
        · simp only [tithebarnref14_May.j1]
          rfl
theorem May_ev (l : List (List PRq.S59)) (hl : l.length ≤ 1000000) (hr : ∀ row ∈ l, row.length ≤ 1000000) (hs : Small5 l) : Ev (fun k => tithebarnref14_May.f k l) (rightV l) := by
  have := may_l0 l hl hr hs l.length 0 (by omega)
  rw [List.drop_zero, Bool.and_comm] at this
  exact this
/-! #### what is read -/
/-! #### SameRange of one and the same -/
end Go.Proofs.YtnbmdecehlljcaaGreatDoor
