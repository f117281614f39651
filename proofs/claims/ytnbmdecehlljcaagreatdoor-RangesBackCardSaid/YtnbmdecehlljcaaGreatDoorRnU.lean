/- Plain laws: the reference's reading of a version is the program's; VersionParse. Plain laws: the reference's Parse is the program's; VersionParse. Plain laws of ranges: the reference's reading of a range is the program's. -/
import Derived.Test.YtnbmdecehlljcaaGreatDoorPRqx5
import Derived.Test.YtnbmdecehlljcaaGreatDoorRnW
import Derived.Test.YtnbmdecehlljcaaGreatDoorPRqx9
import Derived.Test.YtnbmdecehlljcaaGreatDoorPRqx10
namespace Go.Proofs.YtnbmdecehlljcaaGreatDoor
open Go.RowKit Go.Lib Go.Proofs.YtnbmdecehlljcaaGreatDoorW.PrintWords Go.Proofs.YtnbmdecehlljcaaGreatDoorW.PrintLast Go.Proofs.YtnbmdecehlljcaaGreatDoorW.PrintMore PRq
set_option linter.unusedVariables false
set_option linter.unusedSimpArgs false
theorem bt_nat (s : ByteArray) (i : Nat) (h : i < s.data.toList.length) : bt s (i : Int) = ((s.data.toList[i]'h).toNat : Int) := by
  unfold bt
  have h2 : (i : Int).toNat < s.size := by have := Lib.size_eq s; simp; omega
  rw [dif_pos h2]
  congr 1
theorem ext_list (s : ByteArray) (i j : Nat) : (s.extract i j).data.toList = (s.data.toList.drop i).take (j - i) := by
  rw [ByteArray.data_extract, Array.toList_extract]
theorem isTagB_int (b : UInt8) : isTagB b = true ↔ (97 ≤ (b.toNat : Int) ∧ (b.toNat : Int) ≤ 122) ∨ (48 ≤ (b.toNat : Int) ∧ (b.toNat : Int) ≤ 57) := by
  unfold isTagB
  simp
  omega
theorem tag_l0 (s : ByteArray) (hs : s.size ≤ 1000000) : ∀ (d i : Nat), i + d = s.size → Ev (fun k => tithebarnref13_tag.l0 k s (i : Int)) ((s.data.toList.drop i).all isTagB && decide (s.size ≤ 16)) := by
  have hL : s.data.toList.length = s.size := (Lib.size_eq s).symm
  intro d
  induction d with
  | zero =>
    intro i hi
    rw [List.drop_eq_nil_of_le (by omega), List.all_nil, Bool.true_and]
    refine Ev.step (f := fun _ => some (decide (s.size ≤ 16))) (fun k => ?_) (Ev.now _)
    simp only [tithebarnref13_tag.l0]
    rw [if_neg (by omega)]
    congr 1
    exact decide_eq_decide.2 (by omega)
  | succ d ih =>
    intro i hi
    have hil : i < s.data.toList.length := by omega
    have hb := bt_nat s i hil
    rw [List.drop_eq_getElem_cons hil, List.all_cons]
    have ht := isTagB_int (s.data.toList[i]'hil)
    generalize s.data.toList[i]'hil = b at *
    by_cases hg : isTagB b = true
    · rw [hg, Bool.true_and]
      have hr := ht.1 hg
      refine Ev.step (fun k => ?_) (ih (i + 1) (by omega))
      simp only [tithebarnref13_tag.l0]
      rw [if_pos (by omega), if_pos (by omega), hb, wrap_id (by omega) (by omega)]
      by_cases c1 : (b.toNat : Int) < 97
      · rw [if_pos c1, if_neg (by omega), if_neg (by omega)]; rfl
      · rw [if_neg c1, if_neg (by omega)]; rfl
    · have hr : ¬ ((97 ≤ (b.toNat : Int) ∧ (b.toNat : Int) ≤ 122) ∨ (48 ≤ (b.toNat : Int) ∧ (b.toNat : Int) ≤ 57)) := fun h => hg (ht.2 h)
      rw [Bool.eq_false_iff.2 hg, Bool.false_and, Bool.false_and]
      refine Ev.step (f := fun _ => some false) (fun k => ?_) (Ev.now _)
      simp only [tithebarnref13_tag.l0]
      rw [if_pos (by omega), if_pos (by omega), hb]
      by_cases c1 : (b.toNat : Int) < 97
      · rw [if_pos c1]
        by_cases c2 : (b.toNat : Int) < 48
        · rw [if_pos c2]
        · rw [if_neg c2, if_pos (by omega)]
      · rw [if_neg c1, if_pos (by omega), if_neg (by omega), if_pos (by omega)]
theorem tag_ev (s : ByteArray) (hs : s.size ≤ 1000000) : Ev (fun k => tithebarnref13_tag.f k s) (tagB s.data.toList) := by
  have h := tag_l0 s hs s.size 0 (by omega)
  rw [List.drop_zero] at h
  have e : tagB s.data.toList = (s.data.toList.all isTagB && decide (s.size ≤ 16)) := by
    unfold tagB
    rw [Bool.and_comm, ← Lib.size_eq]
  rw [e]
  exact h
def nzB (s : ByteArray) : Bool := (s.data.toList == [48]) || (decide (0 < s.size) && (s.data.toList.head? != some 48))
theorem isDig_int (b : UInt8) : isDig b = true ↔ 48 ≤ (b.toNat : Int) ∧ (b.toNat : Int) ≤ 57 := by
  unfold isDig
  simp
  omega
theorem number_l0 (s : ByteArray) (hs : s.size ≤ 1000000) : ∀ (d i acc : Nat), i + d = s.size → i ≤ 9 → acc < 10 ^ i →
    Ev (fun k => tithebarnref13_number.l0 k s (acc : Int) (i : Int)) (if ((s.data.toList.drop i).all isDig && decide (s.size ≤ 9)) = true then ((valF acc (s.data.toList.drop i) : Int), nzB s) else (0, false)) := by
  have hL : s.data.toList.length = s.size := (Lib.size_eq s).symm
  intro d
  induction d with
  | zero =>
    intro i acc hi h9 ha
    rw [List.drop_eq_nil_of_le (by omega), List.all_nil, Bool.true_and, decide_eq_true (by omega), if_pos rfl]
    refine Ev.step (f := fun _ => some ((acc : Int), nzB s)) (fun k => ?_) (Ev.now _)
    simp only [tithebarnref13_number.l0]
    rw [if_neg (by omega), ByteArray.toList_eq]
    unfold nzB
    by_cases c1 : s.data.toList = [48]
    · rw [if_pos c1, c1]; rfl
    · rw [if_neg c1]
      have c1' : (s.data.toList == [48]) = false := by simpa using c1
      rw [c1', Bool.false_or]
      by_cases c2 : (s.size : Int) > 0
      · rw [if_pos c2, if_pos c2]
        have hb := bt_nat s 0 (by omega)
        have e : bt s 0 = ((s.data.toList[0]'(by omega)).toNat : Int) := hb
        rw [e, decide_eq_true (by omega), Bool.true_and]
        have hh : s.data.toList.head? = some (s.data.toList[0]'(by omega)) := by
          rw [List.head?_eq_getElem?, List.getElem?_eq_getElem (by omega)]
        rw [hh]
        generalize s.data.toList[0]'(by omega) = b
        congr 2
        rw [Bool.eq_iff_iff]
        simp only [bne_iff_ne, ne_eq, Option.some.injEq]
        constructor
        · intro h hb; apply h; rw [hb]; rfl
        · intro h hb; apply h; exact UInt8.toNat_inj.1 (by have : (48 : UInt8).toNat = 48 := rfl; omega)
      · rw [if_neg c2, decide_eq_false (by omega), Bool.false_and]
  | succ d ih =>
    intro i acc hi h9 ha
    have hil : i < s.data.toList.length := by omega
    have hb := bt_nat s i hil
    rw [List.drop_eq_getElem_cons hil, List.all_cons]
    have ht := isDig_int (s.data.toList[i]'hil)
    generalize s.data.toList[i]'hil = b at *
    by_cases hg : isDig b = true
    · have hr := ht.1 hg
      rw [hg, Bool.true_and]
      by_cases h8 : i = 9
      · rw [decide_eq_false (show ¬ s.size ≤ 9 by omega), Bool.and_false, if_neg (by decide)]
        refine Ev.step (f := fun _ => some (0, false)) (fun k => ?_) (Ev.now _)
        simp only [tithebarnref13_number.l0]
        rw [if_pos (by omega), if_pos (by omega), hb, if_neg (by omega), if_neg (by omega), if_pos (by omega)]
      · have hp : 10 ^ (i + 1) = 10 ^ i * 10 := Nat.pow_succ ..
        have hp8 : 10 ^ i ≤ 10 ^ 8 := Nat.pow_le_pow_right (by omega) (by omega)
        have := ih (i + 1) (acc * 10 + (b.toNat - 48)) (by omega) (by omega) (by omega)
        rw [valF_cons]
        refine Ev.step (fun k => ?_) this
        simp only [tithebarnref13_number.l0]
        rw [if_pos (by omega), if_pos (by omega), hb, if_neg (by omega), if_neg (by omega), if_neg (by omega), wrap_id (x := (acc : Int) * 10) (by omega) (by omega), wrap_id (x := (acc : Int) * 10 + _) (by omega) (by omega), wrap_id (x := (i : Int) + 1) (by omega) (by omega)]
        congr 1
        omega
    · have hr : ¬ (48 ≤ (b.toNat : Int) ∧ (b.toNat : Int) ≤ 57) := fun h => hg (ht.2 h)
      rw [Bool.eq_false_iff.2 hg, Bool.false_and, Bool.false_and, if_neg (by decide)]
      refine Ev.step (f := fun _ => some (0, false)) (fun k => ?_) (Ev.now _)
      simp only [tithebarnref13_number.l0]
      rw [if_pos (by omega), if_pos (by omega), hb]
      by_cases c1 : (b.toNat : Int) < 48
      · rw [if_pos c1]
      · rw [if_neg c1, if_pos (by omega)]
theorem number_ev (s : ByteArray) (hs : s.size ≤ 1000000) : ∃ v : Int, Ev (fun k => tithebarnref13_number.f k s) (v, canonB s.data.toList) ∧ (canonB s.data.toList = true → v = valF 0 s.data.toList) := by
  have h := number_l0 s hs s.size 0 0 (by omega) (by omega) (by decide)
  rw [List.drop_zero] at h
  have hL : s.data.toList.length = s.size := (Lib.size_eq s).symm
  by_cases c : (s.data.toList.all isDig && decide (s.size ≤ 9)) = true
  · rw [if_pos c] at h
    have e : nzB s = canonB s.data.toList := by
      simp only [Bool.and_eq_true, decide_eq_true_eq] at c
      unfold nzB canonB
      rw [c.1, hL, decide_eq_true c.2, Bool.true_and, Bool.and_true]
      cases hl : s.data.toList with
      | nil => rw [hl] at hL; simp at hL; simp [← hL]
      | cons x r =>
        rw [hl] at hL
        simp only [List.length_cons] at hL
        rw [decide_eq_true (show 0 < s.size by omega), decide_eq_true (show 1 ≤ s.size by omega)]
        simp
    rw [e] at h
    exact ⟨_, h, fun _ => rfl⟩
  · rw [if_neg c] at h
    have e : canonB s.data.toList = false := by
      rw [Bool.eq_false_iff]
      intro hc
      apply c
      unfold canonB at hc
      simp only [Bool.and_eq_true, decide_eq_true_eq] at hc ⊢
      exact ⟨hc.1.1.1, by omega⟩
    rw [e]
    exact ⟨_, h, fun h => by cases h⟩
end Go.Proofs.YtnbmdecehlljcaaGreatDoor
namespace Go.Proofs.YtnbmdecehlljcaaGreatDoor
open Go.RowKit Go.Lib Go.Proofs.YtnbmdecehlljcaaGreatDoorW.PrintWords Go.Proofs.YtnbmdecehlljcaaGreatDoorW.PrintLast Go.Proofs.YtnbmdecehlljcaaGreatDoorW.PrintMore PRq
set_option linter.unusedVariables false
set_option linter.unusedSimpArgs false
def finishP (nums : List Int) (ps : List (List UInt8)) (tag : ByteArray) : List Int × ByteArray × Int := match partsNums ps with
  | none => ([], ⟨#[]⟩, 130)
  | some ns => if (nums ++ ns).length > 8 then ([], ⟨#[]⟩, 130) else (nums ++ ns, tag, 0)
theorem finish_cons (nums : List Int) (p : List UInt8) (r : List (List UInt8)) (tag : ByteArray) (u : Nat) (h : progNum p = some u) : finishP nums (p :: r) tag = finishP (nums ++ [(u : Int)]) r tag := by
  unfold finishP
  conv => lhs; rw [partsNums]
  rw [h]
  cases partsNums r with
  | none => rfl
  | some l => simp
theorem finish_bad (nums : List Int) (p : List UInt8) (r : List (List UInt8)) (tag : ByteArray) (h : progNum p = none) : finishP nums (p :: r) tag = ([], ⟨#[]⟩, 130) := by
  unfold finishP
  rw [partsNums, h]
theorem take_snoc {α : Type} (l : List α) (n : Nat) (h : n < l.length) : l.take (n + 1) = l.take n ++ [l[n]] := by
  rw [List.take_add_one, List.getElem?_eq_getElem h]
  rfl
/-- One part, read: the road behind the part's end. -/
theorem parse_part (s tag : ByteArray) (E i from_ : Nat) (nums : List Int) (hs : s.size ≤ 100000) (hi : i ≤ s.size) (hf : from_ ≤ i) (hn : nums.length ≤ i)
    (R : List Int × ByteArray × Int) (p : List UInt8) (hp : p = (s.data.toList.drop from_).take (i - from_))
    (hgood : ∀ u : Nat, progNum p = some u → Ev (fun k => tithebarnref13_Parse.l1 k s (E : Int) ((i + 1 : Nat) : Int) ((i + 1 : Nat) : Int) (nums ++ [(u : Int)]) tag) R)
    (hbad : progNum p = none → R = ([], ⟨#[]⟩, 130)) :
    Ev (fun k => tithebarnref13_Parse.j3 k s (E : Int) (from_ : Int) (i : Int) false nums tag) R := by
  have he := ext_list s from_ i
  have hsz : (s.extract from_ i).size ≤ 1000000 := by
    rw [Lib.size_eq, he, List.length_take, List.length_drop, ← Lib.size_eq]
    omega
  obtain ⟨v, hv, hvc⟩ := number_ev (s.extract from_ i) hsz
  rw [he, ← hp] at hv hvc
  refine Ev.step (f := fun k => (tithebarnref13_number.f k (s.extract from_ i)).bind fun bt104 => (if bt104.2 = true then (if nums.length < 17592186044416 then (tithebarnref13_Parse.l1 k s (E : Int) ((i + 1 : Nat) : Int) ((i + 1 : Nat) : Int) (nums ++ [bt104.1]) tag) else (none)) else (some (([] : List Int), (⟨#[]⟩ : ByteArray), 130)))) (fun k => ?_) (Ev.bind hv ?_)
  · simp only [tithebarnref13_Parse.j3]
    rw [if_neg (by decide), if_pos (by omega), if_pos (by omega), if_pos (by omega), wrap_id (by omega) (by omega)]
    rfl
  · by_cases hc : canonB p = true
    · have hpn : progNum p = some (valF 0 p) := by rw [progNum_eq, if_pos hc]
      refine Ev.ite_pos hc (Ev.ite_pos (by omega) ?_)
      have := hgood _ hpn
      rw [← hvc hc] at this
      exact this
    · have hpn : progNum p = none := by rw [progNum_eq, if_neg hc]
      refine Ev.ite_neg hc ?_
      rw [hbad hpn]
      exact Ev.now _
theorem parse_done (s tag : ByteArray) (E : Nat) (hs : s.size ≤ 100000) (hE : E ≤ s.size) (nums : List Int) : Ev (fun k => tithebarnref13_Parse.l1 k s (E : Int) ((E + 1 : Nat) : Int) ((E + 1 : Nat) : Int) nums tag) (finishP nums [] tag) := by
  refine Ev.step (f := fun _ => some (finishP nums [] tag)) (fun k => ?_) (Ev.now _)
  simp only [tithebarnref13_Parse.l1]
  rw [if_neg (by omega)]
  unfold finishP
  simp only [partsNums, List.append_nil]
  by_cases h : nums.length > 8
  · rw [if_pos (by omega), if_pos h]
  · rw [if_neg (by omega), if_neg h]
theorem parse_l1 (s tag : ByteArray) (E : Nat) (hs : s.size ≤ 100000) (hE : E ≤ s.size) : ∀ (d i from_ : Nat) (nums : List Int), i + d = E → from_ ≤ i → nums.length ≤ i → (46 : UInt8) ∉ ((s.data.toList.take E).drop from_).take (i - from_) →
    Ev (fun k => tithebarnref13_Parse.l1 k s (E : Int) (from_ : Int) (i : Int) nums tag) (finishP nums (splitOn 46 ((s.data.toList.take E).drop from_)) tag) := by
  have hL : s.data.toList.length = s.size := (Lib.size_eq s).symm
  have haL : (s.data.toList.take E).length = E := by rw [List.length_take]; omega
  have hpe : ∀ i from_, i ≤ E → from_ ≤ i → (s.data.toList.drop from_).take (i - from_) = ((s.data.toList.take E).drop from_).take (i - from_) := by
    intro i from_ h1 h2
    rw [List.drop_take, List.take_take]
    congr 1
    omega
  intro d
  induction d with
  | zero =>
    intro i from_ nums hi hf hn h46
    have hiE : i = E := by omega
    subst hiE
    have hall : ((s.data.toList.take i).drop from_).take (i - from_) = (s.data.toList.take i).drop from_ := List.take_of_length_le (by rw [List.length_drop, haL]; omega)
    rw [hall] at h46
    refine Ev.step (f := fun k => tithebarnref13_Parse.j3 k s (i : Int) (from_ : Int) (i : Int) false nums tag) (fun k => ?_) (parse_part s tag i i from_ nums hs (by omega) hf hn _ _ rfl ?_ ?_)
    · simp only [tithebarnref13_Parse.l1]
      rw [if_pos (by omega), if_neg (by omega)]
    · intro u hu
      rw [hpe i from_ (Nat.le_refl _) hf, hall] at hu
      rw [splitOn_none 46 _ h46, finish_cons _ _ _ _ _ hu]
      exact parse_done s tag i hs hE _
    · intro hu
      rw [hpe i from_ (Nat.le_refl _) hf, hall] at hu
      rw [splitOn_none 46 _ h46]
      exact finish_bad _ _ _ _ hu
  | succ d ih =>
    intro i from_ nums hi hf hn h46
    have hil : i < s.data.toList.length := by omega
    have hb := bt_nat s i hil
    have hia : i < (s.data.toList.take E).length := by omega
    have hget : (s.data.toList.take E)[i]'hia = s.data.toList[i]'hil := by simp
    have hdf : i - from_ < ((s.data.toList.take E).drop from_).length := by rw [List.length_drop]; omega
    have hgf : ((s.data.toList.take E).drop from_)[i - from_]'hdf = s.data.toList[i]'hil := by
      rw [← hget, List.getElem_drop]
      congr 1
      omega
    by_cases hc : s.data.toList[i]'hil = 46
    · have hflag : ((bt s (i : Int)) != 46) = false := by rw [hb, hc]; rfl
      have hsplit : (s.data.toList.take E).drop from_ = ((s.data.toList.take E).drop from_).take (i - from_) ++ 46 :: (s.data.toList.take E).drop (i + 1) := by
        conv => lhs; rw [← List.take_append_drop (i - from_) ((s.data.toList.take E).drop from_)]
        congr 1
        rw [List.drop_eq_getElem_cons hdf, hgf, hc, List.drop_drop]
        congr 2
        omega
      refine Ev.step (f := fun k => tithebarnref13_Parse.j3 k s (E : Int) (from_ : Int) (i : Int) false nums tag) (fun k => ?_) (parse_part s tag E i from_ nums hs (by omega) hf hn _ _ rfl ?_ ?_)
      · simp only [tithebarnref13_Parse.l1]
        rw [if_pos (by omega), if_pos (by omega), if_pos (by omega), if_pos (by omega), hflag]
      · intro u hu
        rw [hpe i from_ (by omega) hf] at hu
        rw [hsplit, splitOn_app 46 _ _ h46, finish_cons _ _ _ _ _ hu]
        exact ih (i + 1) (i + 1) (nums ++ [(u : Int)]) (by omega) (Nat.le_refl _) (by simp; omega) (by simp)
      · intro hu
        rw [hpe i from_ (by omega) hf] at hu
        rw [hsplit, splitOn_app 46 _ _ h46]
        exact finish_bad _ _ _ _ hu
    · have hflag : ((bt s (i : Int)) != 46) = true := by
        rw [hb]
        simp only [bne_iff_ne, ne_eq]
        intro h
        apply hc
        have e2 : (46 : UInt8).toNat = 46 := rfl
        exact UInt8.toNat_inj.1 (by omega)
      have hst : ((s.data.toList.take E).drop from_).take (i + 1 - from_) = ((s.data.toList.take E).drop from_).take (i - from_) ++ [s.data.toList[i]'hil] := by
        rw [show i + 1 - from_ = (i - from_) + 1 by omega, take_snoc _ _ hdf, hgf]
      refine Ev.step (f := fun k => tithebarnref13_Parse.j3 k s (E : Int) (from_ : Int) (i : Int) true nums tag) (fun k => ?_) (Ev.step (f := fun k => tithebarnref13_Parse.l1 k s (E : Int) (from_ : Int) ((i + 1 : Nat) : Int) nums tag) (fun k => ?_) (ih (i + 1) from_ nums (by omega) (by omega) (by omega) ?_))
      · simp only [tithebarnref13_Parse.l1]
        rw [if_pos (by omega), if_pos (by omega), if_pos (by omega), if_pos (by omega), hflag]
      · simp only [tithebarnref13_Parse.j3]
        rw [if_pos trivial, wrap_id (by omega) (by omega)]
        rfl
      · rw [hst]
        simp only [List.mem_append, List.mem_singleton, not_or]
        exact ⟨h46, fun h => hc h.symm⟩
theorem finish_parse (s : ByteArray) (a t : List UInt8) (f : Bool) (hc : cutOn 45 s.data.toList = (a, t, f)) (hok : ¬ (f && t.isEmpty || !tagB t) = true) : finishP [] (splitOn 46 a) ⟨t.toArray⟩ = tripleV s := by
  unfold tripleV parseV finishP
  rw [hc]
  simp only
  rw [if_neg hok]
  cases hp : partsNums (splitOn 46 a) with
  | none =>
    simp only
    split <;> rfl
  | some ns =>
    have hl := (partsNums_some hp).2.1
    simp only [List.nil_append]
    by_cases h8 : 8 < (splitOn 46 a).length
    · rw [if_pos (by omega), if_pos h8]; rfl
    · rw [if_neg (by omega), if_neg h8]; rfl
theorem triple_bad (s : ByteArray) (a t : List UInt8) (f : Bool) (hc : cutOn 45 s.data.toList = (a, t, f)) (hbad : (f && t.isEmpty || !tagB t) = true) : tripleV s = ([], ⟨#[]⟩, 130) := by
  unfold tripleV parseV
  rw [hc]
  simp only
  rw [if_pos hbad]
  rfl
theorem parse_end (s : ByteArray) (hs : s.size ≤ 100000) : Ev (fun k => tithebarnref13_Parse.l0 k s ((cutOn 45 s.data.toList).1.length : Int) (-1)) (tripleV s) := by
  have hL : s.data.toList.length = s.size := (Lib.size_eq s).symm
  have hb := cutOn_back 45 s.data.toList
  obtain ⟨⟨a, t, f⟩, hc⟩ : ∃ q, cutOn 45 s.data.toList = q := ⟨_, rfl⟩
  rw [hc] at hb ⊢
  simp only at hb ⊢
  have hj : ∀ (tag : ByteArray), tag = ⟨t.toArray⟩ → (¬ (f && t.isEmpty || !tagB t) = true) → a.length ≤ s.size → a = s.data.toList.take a.length → Ev (fun k => tithebarnref13_Parse.j1 k s (a.length : Int) tag) (tripleV s) := by
    intro tag ht hok hal hat
    have h1 := parse_l1 s tag a.length hs hal a.length 0 0 [] (by omega) (Nat.le_refl _) (by simp) (by simp)
    rw [List.drop_zero, ← hat, ht, finish_parse s a t f hc hok] at h1
    refine Ev.step (f := fun k => tithebarnref13_Parse.l1 k s (a.length : Int) ((0 : Nat) : Int) ((0 : Nat) : Int) [] tag) (fun k => ?_) (by rw [ht]; exact h1)
    simp only [tithebarnref13_Parse.j1]
    rfl
  cases f with
  | true =>
    simp only [if_true] at hb
    have hlen : s.data.toList.length = a.length + (t.length + 1) := by rw [hb.1]; simp
    have hat : a = s.data.toList.take a.length := by conv => rhs; rw [hb.1]; simp
    have hdt : s.data.toList.drop (a.length + 1) = t := by rw [hb.1, List.drop_append]; simp
    have hx := ext_list s (a.length + 1) s.size
    rw [hdt, List.take_of_length_le (by omega)] at hx
    have hxb : s.extract (a.length + 1) s.size = ⟨t.toArray⟩ := ba_eq.2 hx
    have hstep : ∀ k, tithebarnref13_Parse.l0 (k + 1) s (a.length : Int) (-1) = if t = [] then some (([] : List Int), (⟨#[]⟩ : ByteArray), 130) else ((tithebarnref13_tag.f k ⟨t.toArray⟩).bind fun t103 => (if t103 = true then (tithebarnref13_Parse.j1 k s (a.length : Int) ⟨t.toArray⟩) else (some (([] : List Int), (⟨#[]⟩ : ByteArray), 130)))) := by
      intro k
      simp only [tithebarnref13_Parse.l0]
      rw [if_neg (by omega), if_pos (by omega), wrap_id (by omega) (by omega), if_pos (by omega), if_pos (by omega)]
      have e : ((a.length : Int) + 1).toNat = a.length + 1 := by omega
      rw [e, hxb, ByteArray.toList_eq]
    by_cases ht : t = []
    · rw [triple_bad s a t true hc (by rw [ht]; rfl)]
      refine Ev.step (f := fun _ => some (([] : List Int), (⟨#[]⟩ : ByteArray), 130)) (fun k => ?_) (Ev.now _)
      rw [hstep, if_pos ht]
    · have htg := tag_ev (⟨t.toArray⟩ : ByteArray) (by simp [ByteArray.size]; omega)
      refine Ev.step (fun k => by rw [hstep, if_neg ht]) (Ev.bind htg ?_)
      show Ev (fun n => if tagB t = true then _ else _) _
      by_cases hg : tagB t = true
      · refine Ev.ite_pos hg (hj _ rfl (by rw [hg]; cases t with | nil => exact absurd rfl ht | cons x r => simp) (by omega) hat)
      · refine Ev.ite_neg hg ?_
        rw [triple_bad s a t true hc (by simp [hg])]
        exact Ev.now _
  | false =>
    have ht := hb.2 rfl
    subst ht
    have hla : s.data.toList = a := by simpa using hb.1
    refine Ev.step (f := fun k => tithebarnref13_Parse.j1 k s (a.length : Int) ⟨#[]⟩) (fun k => ?_) (hj ⟨#[]⟩ rfl (by decide) (by rw [← hla, hL]; exact Nat.le_refl _) (by rw [hla, List.take_length]))
    have : a.length = s.size := by rw [← hla, hL]
    simp only [tithebarnref13_Parse.l0]
    rw [if_neg (by omega), if_neg (by omega)]
theorem parse_l0 (s : ByteArray) (hs : s.size ≤ 100000) : ∀ (i : Nat), i ≤ s.size → Ev (fun k => tithebarnref13_Parse.l0 k s ((i + (cutOn 45 (s.data.toList.drop i)).1.length : Nat) : Int) ((i : Int) - 1)) (tripleV s) := by
  have hL : s.data.toList.length = s.size := (Lib.size_eq s).symm
  intro i
  induction i with
  | zero =>
    intro _
    have := parse_end s hs
    simpa using this
  | succ i ih =>
    intro hi
    have hil : i < s.data.toList.length := by omega
    have hb := bt_nat s i hil
    have ih := ih (by omega)
    rw [List.drop_eq_getElem_cons hil] at ih
    have e1 : ((i + 1 : Nat) : Int) - 1 = (i : Int) := by omega
    rw [e1]
    by_cases hc : s.data.toList[i]'hil = 45
    · rw [hc, cutOn, if_pos rfl] at ih
      refine Ev.step (fun k => ?_) ih
      simp only [tithebarnref13_Parse.l0]
      rw [if_pos (by omega), if_pos (by omega), if_pos (by omega), hb, hc, if_pos (show ((UInt8.toNat 45 : Nat) : Int) = 45 from rfl), wrap_id (by omega) (by omega)]
      simp
    · rw [cutOn, if_neg hc] at ih
      refine Ev.step (fun k => ?_) ih
      have hne : ¬ ((s.data.toList[i]'hil).toNat : Int) = 45 := by
        intro h
        apply hc
        have e2 : (45 : UInt8).toNat = 45 := rfl
        exact UInt8.toNat_inj.1 (by omega)
      simp only [tithebarnref13_Parse.l0]
      rw [if_pos (by omega), if_pos (by omega), if_pos (by omega), hb, if_neg hne, wrap_id (by omega) (by omega)]
      congr 1
      simp only [List.length_cons]
      omega
theorem parse_ev (s : ByteArray) (hs : s.size ≤ 100000) : Ev (fun k => tithebarnref13_Parse.f k s) (tripleV s) := by
  have hL : s.data.toList.length = s.size := (Lib.size_eq s).symm
  have h := parse_l0 s hs s.size (Nat.le_refl _)
  rw [List.drop_eq_nil_of_le (by omega)] at h
  refine Ev.congr (fun k => ?_) h
  unfold tithebarnref13_Parse.f
  rw [wrap_id (by omega) (by omega)]
  rfl
end Go.Proofs.YtnbmdecehlljcaaGreatDoor
namespace Go.Proofs.YtnbmdecehlljcaaGreatDoor
open Go.RowKit Go.Lib Go.Proofs.YtnbmdecehlljcaaGreatDoorW.PrintWords Go.Proofs.YtnbmdecehlljcaaGreatDoorW.PrintLast Go.Proofs.YtnbmdecehlljcaaGreatDoorW.PrintMore PRq
set_option linter.unusedVariables false
set_option linter.unusedSimpArgs false
theorem rsplit_l0 (c : UInt8) (s : ByteArray) (hs : s.size ≤ 1000000) : ∀ (d i f : Nat) (acc : List ByteArray), i + d = s.size → f ≤ i → acc.length ≤ i → c ∉ (s.data.toList.drop f).take (i - f) →
    Ev (fun k => tithebarnref14_split.l0 k s (c.toNat : Int) acc (f : Int) (i : Int)) (acc ++ (splitOn c (s.data.toList.drop f)).map fun l => ⟨l.toArray⟩) := by
  have hL := ba_size s
  intro d
  induction d with
  | zero =>
    intro i f acc hi hf hn hc
    have hiE : i = s.size := by omega
    have hall : (s.data.toList.drop f).take (i - f) = s.data.toList.drop f := List.take_of_length_le (by rw [List.length_drop]; omega)
    rw [hall] at hc
    have hex : s.extract f i = ⟨(s.data.toList.drop f).toArray⟩ := by
      apply ByteArray.ext
      apply Array.ext'
      rw [extract_list, hall]
    refine Ev.step (f := fun k => tithebarnref14_split.l0 k s (c.toNat : Int) (acc ++ [s.extract f i]) ((i + 1 : Nat) : Int) ((i + 1 : Nat) : Int)) (fun k => ?_) (Ev.step (f := fun _ => some (acc ++ [s.extract f i])) (fun k => ?_) ?_)
    · simp only [tithebarnref14_split.l0]
      rw [if_pos (by omega), if_pos (by omega), if_pos (by omega), if_pos (by omega), if_pos (by omega), wrap_id (by omega) (by omega)]
      rfl
    · simp only [tithebarnref14_split.l0]
      rw [if_neg (by omega)]
    · rw [splitOn_none c _ hc, hex]
      exact Ev.now _
  | succ d ih =>
    intro i f acc hi hf hn hc
    have hil : i < s.data.toList.length := by omega
    have hb := bt_nat s i hil
    have hdf : i - f < (s.data.toList.drop f).length := by rw [List.length_drop]; omega
    have hgf : (s.data.toList.drop f)[i - f]'hdf = s.data.toList[i]'hil := by
      rw [List.getElem_drop]
      congr 1
      omega
    by_cases he : s.data.toList[i]'hil = c
    · have hsplit : s.data.toList.drop f = (s.data.toList.drop f).take (i - f) ++ c :: s.data.toList.drop (i + 1) := by
        conv => lhs; rw [← List.take_append_drop (i - f) (s.data.toList.drop f)]
        congr 1
        rw [List.drop_eq_getElem_cons hdf, hgf, he, List.drop_drop]
        congr 2
        omega
      have hex : s.extract f i = ⟨((s.data.toList.drop f).take (i - f)).toArray⟩ := by
        apply ByteArray.ext
        apply Array.ext'
        rw [extract_list]
      have ih2 := ih (i + 1) (i + 1) (acc ++ [s.extract f i]) (by omega) (Nat.le_refl _) (by simp; omega) (by simp)
      rw [hsplit, splitOn_app c _ _ hc]
      rw [hex, List.append_assoc] at ih2
      refine Ev.step (fun k => ?_) ih2
      simp only [tithebarnref14_split.l0]
      rw [if_pos (by omega), if_neg (by omega), if_pos (by omega), if_pos (by omega), if_pos (by rw [hb, he]), if_pos (by omega), if_pos (by omega), if_pos (by omega), wrap_id (by omega) (by omega)]
      show tithebarnref14_split.l0 k s (c.toNat : Int) (acc ++ [s.extract f i]) ((i : Int) + 1) ((i : Int) + 1) = _
      rw [hex]
      rfl
    · have hne : ¬ bt s (i : Int) = (c.toNat : Int) := by
        rw [hb]
        intro h
        exact he (UInt8.toNat_inj.1 (by omega))
      have hst : (s.data.toList.drop f).take (i + 1 - f) = (s.data.toList.drop f).take (i - f) ++ [s.data.toList[i]'hil] := by
        rw [show i + 1 - f = (i - f) + 1 by omega, take_snoc _ _ hdf, hgf]
      refine Ev.step (fun k => ?_) (ih (i + 1) f acc (by omega) (by omega) (by omega) (by
        rw [hst]
        simp only [List.mem_append, List.mem_singleton, not_or]
        exact ⟨hc, fun h => he h.symm⟩))
      simp only [tithebarnref14_split.l0]
      rw [if_pos (by omega), if_neg (by omega), if_pos (by omega), if_pos (by omega), if_neg hne, wrap_id (by omega) (by omega)]
      rfl
theorem rsplit_ev (c : UInt8) (s : ByteArray) (hs : s.size ≤ 1000000) : Ev (fun k => tithebarnref14_split.f k s (c.toNat : Int)) (splitB c s) := by
  have := rsplit_l0 c s hs s.size 0 0 [] (by omega) (by omega) (by simp) (by simp)
  rw [List.drop_zero, List.nil_append] at this
  exact this
theorem sign_f (z : Int) (h0 : 0 ≤ z) (h8 : z < 8) : tithebarnref14_sign.f z = some (rdOf ByteArray.empty signsL z) := by
  unfold tithebarnref14_sign.f
  rw [Option.bind_some, if_pos h0]
  exact if_pos h8
theorem rbound_step (x : ByteArray) (hx : x.size ≤ 100000) (z : Nat) (h0 : 0 < z) (h8 : z < 8) (sg : ByteArray) (hs : rdOf ByteArray.empty signsL (z : Int) = sg) (r : Int × ByteArray × Bool) (h : Ev (fun k => tithebarnref14_bound.l0 k x ((z + 1 : Nat) : Int)) r) :
    Ev (fun k => tithebarnref14_bound.l0 k x (z : Int)) (if signB sg.data.toList x.data.toList = true then ((z : Int), ⟨(x.data.toList.drop sg.data.toList.length).toArray⟩, true) else r) := by
  have hsf := sign_f (z : Int) (by omega) (by omega)
  rw [hs] at hsf
  have hg := ba_size sg
  have hxs := ba_size x
  have hm : ((z : Int) + 1) % 256 = ((z + 1 : Nat) : Int) := by omega
  by_cases hsz : sg.size ≤ x.size
  · have e1 : (x.extract 0 ((sg.size : Int) : Int).toNat).toList = x.data.toList.take sg.data.toList.length := by
      rw [ByteArray.toList_eq, extract_list, Int.toNat_natCast, List.drop_zero, Nat.sub_zero, hg]
    have e2 : x.extract ((sg.size : Int) : Int).toNat x.size = ⟨(x.data.toList.drop sg.data.toList.length).toArray⟩ := by
      apply ByteArray.ext
      apply Array.ext'
      rw [extract_list, Int.toNat_natCast, List.take_of_length_le (by rw [List.length_drop]; omega), hg]
    refine Ev.step (f := fun k => tithebarnref14_bound.j1 k x (z : Int) (sg.size : Int) (x.data.toList.take sg.data.toList.length != sg.data.toList)) (fun k => ?_) ?_
    · simp only [tithebarnref14_bound.l0]
      rw [if_pos (by omega), hsf, Option.bind_some, if_neg (by omega), if_pos (by omega), if_pos (by omega), Option.bind_some, e1, ByteArray.toList_eq]
    · unfold signB
      by_cases hp : (x.data.toList.take sg.data.toList.length == sg.data.toList) = true
      · have hnb : (x.data.toList.take sg.data.toList.length != sg.data.toList) = false := by rw [bne, hp]; rfl
        rw [hnb, hp, Bool.true_and]
        have hd : (⟨(x.data.toList.drop sg.data.toList.length).toArray⟩ : ByteArray).size ≤ 100000 := by
          rw [ba_size]
          show (x.data.toList.drop sg.data.toList.length).length ≤ _
          rw [List.length_drop]
          omega
        have hpe := parse_ev _ hd
        have he : (tripleV ⟨(x.data.toList.drop sg.data.toList.length).toArray⟩).2.2 = 0 ↔ okC (x.data.toList.drop sg.data.toList.length) = true := ok_err' (x.data.toList.drop sg.data.toList.length)
        refine Ev.step (f := fun k => (tithebarnref13_Parse.f k ⟨(x.data.toList.drop sg.data.toList.length).toArray⟩).bind fun bt122 => (if bt122.2.2 = 0 then (some ((z : Int), (⟨(x.data.toList.drop sg.data.toList.length).toArray⟩ : ByteArray), true)) else (tithebarnref14_bound.l0 k x ((z + 1 : Nat) : Int)))) (fun k => ?_) (Ev.bind hpe ?_)
        · simp only [tithebarnref14_bound.j1]
          rw [if_neg (by decide), if_pos (by omega), if_pos (by omega), e2, hm]
        · by_cases ho : okC (x.data.toList.drop sg.data.toList.length) = true
          · rw [if_pos ho]
            exact Ev.ite_pos (he.2 ho) (Ev.now _)
          · rw [if_neg ho]
            exact Ev.ite_neg (fun e => ho (he.1 e)) h
      · rw [Bool.not_eq_true] at hp
        have hnb : (x.data.toList.take sg.data.toList.length != sg.data.toList) = true := by rw [bne, hp]; rfl
        rw [hnb, hp, Bool.false_and, if_neg (by decide)]
        refine Ev.step (fun k => ?_) h
        simp only [tithebarnref14_bound.j1]
        rw [if_pos trivial, hm]
  · have hns : signB sg.data.toList x.data.toList = false := by
      unfold signB
      have : (x.data.toList.take sg.data.toList.length == sg.data.toList) = false := by
        rw [beq_eq_false_iff_ne]
        intro e
        have := congrArg List.length e
        rw [List.length_take] at this
        omega
      rw [this, Bool.false_and]
    rw [hns, if_neg (by decide)]
    refine Ev.step (f := fun k => tithebarnref14_bound.j1 k x (z : Int) (sg.size : Int) true) (fun k => ?_) (Ev.step (fun k => ?_) h)
    · simp only [tithebarnref14_bound.l0]
      rw [if_pos (by omega), hsf, Option.bind_some, if_pos (by omega)]
    · simp only [tithebarnref14_bound.j1]
      rw [if_pos trivial, hm]
theorem tripB_if {c : Bool} {p : Int × List UInt8} {o : Option (Int × List UInt8)} : tripB (if c = true then some p else o) = if c = true then (p.1, ⟨p.2.toArray⟩, true) else tripB o := by split <;> rfl
theorem rbound_ev (x : ByteArray) (hx : x.size ≤ 100000) : Ev (fun k => tithebarnref14_bound.f k x) (tripB (boundV x.data.toList)) := by
  unfold boundV
  by_cases h : x.data.toList = [42]
  · rw [if_pos h]
    refine Ev.congr (f := fun _ => some ((0 : Int), (⟨#[]⟩ : ByteArray), true)) (fun k => ?_) (Ev.now _)
    unfold tithebarnref14_bound.f
    rw [ByteArray.toList_eq, if_pos h]
  · rw [if_neg h]
    refine Ev.congr (f := fun k => tithebarnref14_bound.l0 k x ((1 : Nat) : Int)) (fun k => ?_) ?_
    · unfold tithebarnref14_bound.f
      rw [ByteArray.toList_eq, if_neg h]
      rfl
    · have h8 : Ev (fun k => tithebarnref14_bound.l0 k x ((8 : Nat) : Int)) (0, ⟨#[]⟩, false) := by
        refine Ev.step (f := fun _ => some ((0 : Int), (⟨#[]⟩ : ByteArray), false)) (fun k => ?_) (Ev.now _)
        simp only [tithebarnref14_bound.l0]
        rw [if_neg (by omega)]
      have h7 := rbound_step x hx 7 (by omega) (by omega) ⟨#[126]⟩ rfl _ h8
      have h6 := rbound_step x hx 6 (by omega) (by omega) ⟨#[62, 61]⟩ rfl _ h7
      have h5 := rbound_step x hx 5 (by omega) (by omega) ⟨#[62]⟩ rfl _ h6
      have h4 := rbound_step x hx 4 (by omega) (by omega) ⟨#[60, 61]⟩ rfl _ h5
      have h3 := rbound_step x hx 3 (by omega) (by omega) ⟨#[60]⟩ rfl _ h4
      have h2 := rbound_step x hx 2 (by omega) (by omega) ⟨#[33, 61]⟩ rfl _ h3
      have h1 := rbound_step x hx 1 (by omega) (by omega) ⟨#[61]⟩ rfl _ h2
      unfold signsS
      unfold trySigns
      rw [tripB_if]
      unfold trySigns
      rw [tripB_if]
      unfold trySigns
      rw [tripB_if]
      unfold trySigns
      rw [tripB_if]
      unfold trySigns
      rw [tripB_if]
      unfold trySigns
      rw [tripB_if]
      unfold trySigns
      rw [tripB_if]
      exact h1
def Small5 (l : List (List PRq.S59)) : Prop := ∀ row ∈ l, ∀ b ∈ row, b.f1.size ≤ 100000
theorem may_l1 (l : List (List PRq.S59)) (hl : l.length ≤ 1000000) (i : Nat) (hi : i < l.length) (hr : l[i].length ≤ 1000000) (hs : ∀ b ∈ l[i], b.f1.size ≤ 100000) (c : Bool) (h : Ev (fun k => tithebarnref14_May.l0 k l ((i + 1 : Nat) : Int)) c) : ∀ (d j : Nat), j + d = l[i].length →
    Ev (fun k => tithebarnref14_May.l1 k l (i : Int) (j : Int)) ((l[i].drop j).all mayB && c) := by
  have hrd := rdL_nat l i hi
  intro d
  induction d with
  | zero =>
    intro j hj
    have e : j = l[i].length := by omega
    subst e
    rw [List.drop_length, List.all_nil, Bool.true_and]
    refine Ev.step (fun k => ?_) h
    simp only [tithebarnref14_May.l1]
    rw [if_pos (by omega), if_pos (by omega), hrd, if_neg (by omega), wrap_id (by omega) (by omega)]
    rfl
  | succ d ih =>
    intro j hj
    have hjl : j < l[i].length := by omega
    have hb := rdT_nat l[i] j hjl
    have hpe := parse_ev l[i][j].f1 (hs _ (List.getElem_mem hjl))
    have ih2 := ih (j + 1) (by omega)
    rw [List.drop_eq_getElem_cons hjl, List.all_cons, Bool.and_assoc]
    refine Ev.step (f := fun k => (tithebarnref13_Parse.f k l[i][j].f1).bind fun bt134 => (if l[i][j].f0 > 7 then (some false) else (if l[i][j].f0 = 0 then (if l[i][j].f1.toList = ([] : List UInt8) then (tithebarnref14_May.l1 k l (i : Int) ((j + 1 : Nat) : Int)) else (some false)) else (if bt134.2.2 = 0 then (tithebarnref14_May.l1 k l (i : Int) ((j + 1 : Nat) : Int)) else (some false))))) (fun k => ?_) (Ev.bind hpe ?_)
    · simp only [tithebarnref14_May.l1]
      rw [if_pos (by omega), if_pos (by omega), hrd, if_pos (by omega), if_pos (by omega), hb, wrap_id (by omega) (by omega)]
      rfl
    · generalize l[i][j] = b at *
      unfold mayB
      by_cases c7 : b.f0 > 7
      · refine Ev.ite_pos c7 ?_
        rw [if_neg (by omega), decide_eq_false (by omega), Bool.false_and, Bool.false_and]
        exact Ev.now _
      · refine Ev.ite_neg c7 ?_
        by_cases c0 : b.f0 = 0
        · refine Ev.ite_pos c0 ?_
          rw [if_pos c0, ByteArray.toList_eq]
          by_cases ce : b.f1.data.toList = []
          · rw [show (b.f1.data.toList == ([] : List UInt8)) = true from beq_iff_eq.2 ce, Bool.true_and]
            exact Ev.ite_pos ce ih2
          · rw [show (b.f1.data.toList == ([] : List UInt8)) = false from beq_eq_false_iff_ne.2 ce, Bool.false_and]
            exact Ev.ite_neg ce (Ev.now _)
        · refine Ev.ite_neg c0 ?_
          rw [if_neg c0, decide_eq_true (by omega), Bool.true_and]
          have he : (tripleV b.f1).2.2 = 0 ↔ okC b.f1.data.toList = true := ok_err' b.f1.data.toList
          by_cases ho : okC b.f1.data.toList = true
          · rw [ho, Bool.true_and]
            exact Ev.ite_pos (he.2 ho) ih2
          · refine Ev.ite_neg (fun e => ho (he.1 e)) ?_
            rw [Bool.not_eq_true] at ho
            rw [ho, Bool.false_and]
            exact Ev.now _
theorem may_l0 (l : List (List PRq.S59)) (hl : l.length ≤ 1000000) (hr : ∀ row ∈ l, row.length ≤ 1000000) (hs : Small5 l) : ∀ (d i : Nat), i + d = l.length →
    Ev (fun k => tithebarnref14_May.l0 k l (i : Int)) ((l.drop i).all rowOk && decide (l.length ≤ 16)) := by
  intro d
  induction d with
  | zero =>
    intro i hi
    have e : i = l.length := by omega
    subst e
    rw [List.drop_length, List.all_nil, Bool.true_and]
    refine Ev.step (f := fun _ => some (decide (l.length ≤ 16))) (fun k => ?_) (Ev.now _)
    simp only [tithebarnref14_May.l0]
    rw [if_neg (by omega)]
    congr 1
    simp only [decide_eq_decide]
    omega
  | succ d ih =>
    intro i hi
    have hil : i < l.length := by omega
    have hrd := rdL_nat l i hil
    have hm := List.getElem_mem hil
    have h1 := may_l1 l hl i hil (hr _ hm) (hs _ hm) _ (ih (i + 1) (by omega)) l[i].length 0 (by omega)
    rw [List.drop_zero] at h1
    rw [List.drop_eq_getElem_cons hil, List.all_cons, Bool.and_assoc]
    unfold rowOk at h1 ⊢
    by_cases c1 : l[i].length < 1
    · rw [decide_eq_false (show ¬ 1 ≤ l[i].length by omega), Bool.false_and, Bool.false_and, Bool.false_and]
      refine Ev.step (f := fun k => tithebarnref14_May.j1 k l (i : Int) true) (fun k => ?_) (Ev.step (f := fun _ => some false) (fun k => ?_) (Ev.now _))
      · simp only [tithebarnref14_May.l0]
        rw [if_pos (by omega), if_pos (by omega), hrd, if_pos (by omega)]
      · simp only [tithebarnref14_May.j1]
        rfl
    · rw [decide_eq_true (show 1 ≤ l[i].length by omega), Bool.true_and]
      by_cases c2 : l[i].length > 16
      · rw [decide_eq_false (show ¬ l[i].length ≤ 16 by omega), Bool.false_and, Bool.false_and]
        refine Ev.step (f := fun k => tithebarnref14_May.j1 k l (i : Int) true) (fun k => ?_) (Ev.step (f := fun _ => some false) (fun k => ?_) (Ev.now _))
        · simp only [tithebarnref14_May.l0]
          rw [if_pos (by omega), if_pos (by omega), hrd, if_neg (by omega), decide_eq_true (by omega)]
        · simp only [tithebarnref14_May.j1]
          rfl
      · rw [decide_eq_true (show l[i].length ≤ 16 by omega), Bool.true_and]
        refine Ev.step (f := fun k => tithebarnref14_May.j1 k l (i : Int) false) (fun k => ?_) (Ev.step (fun k => ?_) h1)
        · simp only [tithebarnref14_May.l0]
          rw [if_pos (by omega), if_pos (by omega), hrd, if_neg (by omega), decide_eq_false (by omega)]
        · simp only [tithebarnref14_May.j1]
          rfl
theorem May_ev (l : List (List PRq.S59)) (hl : l.length ≤ 1000000) (hr : ∀ row ∈ l, row.length ≤ 1000000) (hs : Small5 l) : Ev (fun k => tithebarnref14_May.f k l) (rightV l) := by
  have := may_l0 l hl hr hs l.length 0 (by omega)
  rw [List.drop_zero, Bool.and_comm] at this
  exact this
/-! #### what is read -/
theorem mapO_cons {α β : Type} (f : α → Option β) (x : α) (xs : List α) : mapO f (x :: xs) = match f x with
    | none => none
    | some b => match mapO f xs with
      | none => none
      | some l => some (b :: l) := rfl
theorem mapO_len {α β : Type} {f : α → Option β} : ∀ {xs : List α} {l : List β}, mapO f xs = some l → l.length = xs.length
  | [], l, h => by
    unfold mapO at h
    rw [← Option.some.inj h]
    rfl
  | x :: xs, l, h => by
    unfold mapO at h
    split at h
    · cases h
    · split at h
      · cases h
      · next b _ l' hl' =>
        rw [← Option.some.inj h, List.length_cons, List.length_cons, mapO_len hl']
theorem mapO_mem {α β : Type} {f : α → Option β} : ∀ {xs : List α} {l : List β}, mapO f xs = some l → ∀ b ∈ l, ∃ x ∈ xs, f x = some b
  | [], l, h, b, hb => by
    unfold mapO at h
    rw [← Option.some.inj h] at hb
    cases hb
  | x :: xs, l, h, b, hb => by
    unfold mapO at h
    split at h
    · cases h
    · next b' hb' =>
      split at h
      · cases h
      · next l' hl' =>
        rw [← Option.some.inj h] at hb
        rcases List.mem_cons.1 hb with rfl | hb
        · exact ⟨x, List.mem_cons_self .., hb'⟩
        · obtain ⟨y, hy, e⟩ := mapO_mem hl' b hb
          exact ⟨y, List.mem_cons_of_mem _ hy, e⟩
theorem trySigns_ok : ∀ (sg : List (Int × List UInt8)), (∀ p ∈ sg, 1 ≤ p.1 ∧ p.1 ≤ 7) → ∀ {x : List UInt8} {q : Int × List UInt8}, trySigns sg x = some q → 1 ≤ q.1 ∧ q.1 ≤ 7 ∧ okC q.2 = true ∧ q.2.length ≤ x.length
  | [], _, x, q, h => by cases h
  | (op, s) :: r, hp, x, q, h => by
    unfold trySigns at h
    split at h
    · next hs =>
      rw [← Option.some.inj h]
      have := hp (op, s) (List.mem_cons_self ..)
      unfold signB at hs
      exact ⟨this.1, this.2, (Bool.and_eq_true_iff.1 hs).2, by simp⟩
    · exact trySigns_ok r (fun p h' => hp p (List.mem_cons_of_mem _ h')) h
theorem boundB_ok {x : ByteArray} {b : PRq.S59} (h : boundB x = some b) : mayB b = true ∧ 0 ≤ b.f0 ∧ b.f1.size ≤ x.size := by
  unfold boundB at h
  obtain ⟨q, hq, rfl⟩ := Option.map_eq_some_iff.1 h
  unfold boundV at hq
  split at hq
  · rw [← Option.some.inj hq]
    exact ⟨rfl, Int.le_refl _, Nat.zero_le _⟩
  · obtain ⟨h1, h2, h3, h4⟩ := trySigns_ok signsS (by decide) hq
    refine ⟨?_, by show 0 ≤ q.1; omega, ?_⟩
    · unfold mayB
      rw [if_neg (by show ¬ q.1 = 0; omega), decide_eq_true (show (⟨q.1, ⟨q.2.toArray⟩⟩ : PRq.S59).f0 ≤ 7 from h2), Bool.true_and]
      exact h3
    · have e1 := ba_size x
      show (⟨q.2.toArray⟩ : ByteArray).size ≤ _
      rw [ba_size]
      show q.2.length ≤ _
      omega
theorem partR_ok {p : ByteArray} {row : List PRq.S59} (h : partR p = some row) : 1 ≤ row.length ∧ row.length ≤ p.size + 1 ∧ ∀ b ∈ row, mayB b = true ∧ 0 ≤ b.f0 ∧ b.f1.size ≤ p.size := by
  have hl := mapO_len h
  have h1 : 1 ≤ (splitB 44 p).length := by
    unfold splitB
    rw [List.length_map]
    have := splitOn_ne 44 p.data.toList
    cases hs : splitOn 44 p.data.toList with
    | nil => exact absurd hs this
    | cons a t => simp
  have h2 : ∀ (c : UInt8) (l : List UInt8), (splitOn c l).length ≤ l.length + 1 := by
    intro c l
    induction l with
    | nil => simp [splitOn]
    | cons b t ih =>
      unfold splitOn
      split
      · simp only [List.length_cons]
        omega
      · split
        · next e =>
          rw [e] at ih
          simp only [List.length_cons] at ih ⊢
          omega
        · simp
  have h3 : (splitB 44 p).length ≤ p.size + 1 := by
    unfold splitB
    rw [List.length_map, ba_size]
    exact h2 44 _
  refine ⟨by omega, by omega, fun b hb => ?_⟩
  obtain ⟨x, hx, e⟩ := mapO_mem h b hb
  obtain ⟨a1, a2, a3⟩ := boundB_ok e
  obtain ⟨i, hi, e2⟩ := List.getElem_of_mem hx
  have := splitB_le (c := 44) (s := p) (x := x) (i := i) (by rw [List.getElem?_eq_getElem hi, e2])
  exact ⟨a1, a2, by omega⟩
def finR (r : List (List PRq.S59)) : List (List PRq.S59) × Int := if rightV r = true then (r, 0) else ([], 140)
theorem rparse_l1 (ps : List ByteArray) (x4 : List (List PRq.S59)) (i : Nat) (hi : i ≤ 1000000) (h4 : x4.length ≤ 1000000) (xs : List ByteArray) (hx : ∀ x ∈ xs, x.size ≤ 100000) (hxl : xs.length ≤ 1000000) (R : List PRq.S59 → List (List PRq.S59) × Int)
    (h : ∀ row, mapO boundB xs = some row → Ev (fun k => tithebarnref14_Parse.l0 k (x4 ++ [row]) ps ((i + 1 : Nat) : Int)) (R row)) : ∀ (d j : Nat) (acc : List PRq.S59), j + d = xs.length → acc.length ≤ j → (∀ l, mapO boundB (xs.drop j) = some l → mapO boundB xs = some (acc ++ l)) →
    Ev (fun k => tithebarnref14_Parse.l1 k x4 ps (i : Int) acc xs (j : Int)) (match mapO boundB (xs.drop j) with | none => ([], 140) | some l => R (acc ++ l)) := by
  intro d
  induction d with
  | zero =>
    intro j acc hj ha hm
    have e : j = xs.length := by omega
    subst e
    rw [List.drop_length] at hm ⊢
    have hrow := hm [] rfl
    rw [List.append_nil] at hrow
    refine Ev.step (fun k => ?_) (show Ev (fun k => tithebarnref14_Parse.l0 k (x4 ++ [acc]) ps ((i + 1 : Nat) : Int)) (R (acc ++ [])) by rw [List.append_nil]; exact h acc hrow)
    simp only [tithebarnref14_Parse.l1]
    rw [if_neg (by omega), if_pos (by omega), wrap_id (by omega) (by omega)]
    rfl
  | succ d ih =>
    intro j acc hj ha hm
    have hjl : j < xs.length := by omega
    have hb := rbound_ev xs[j] (hx _ (List.getElem_mem hjl))
    have hget : rdOf ByteArray.empty xs (j : Int) = xs[j] := by rw [rdS_nat, List.getD_eq_getElem?_getD, List.getElem?_eq_getElem hjl]; rfl
    rw [List.drop_eq_getElem_cons hjl] at hm ⊢
    refine Ev.step (f := fun k => (tithebarnref14_bound.f k xs[j]).bind fun bt149 => (if bt149.2.2 = true then (tithebarnref14_Parse.l1 k x4 ps (i : Int) (acc ++ [(⟨bt149.1, bt149.2.1⟩ : PRq.S59)]) xs ((j + 1 : Nat) : Int)) else (some (([] : List (List PRq.S59)), (140 : Int))))) (fun k => ?_) (Ev.bind hb ?_)
    · simp only [tithebarnref14_Parse.l1]
      rw [if_pos (by omega), if_pos (by omega), hget, wrap_id (by omega) (by omega)]
      congr 1
      funext bt
      by_cases hc : bt.2.2 = true
      · rw [if_pos hc, if_pos hc, if_pos (by omega)]
        rfl
      · rw [if_neg hc, if_neg hc]
    · rw [mapO_cons]
      have eB : boundB xs[j] = (boundV xs[j].data.toList).map fun p => ⟨p.1, ⟨p.2.toArray⟩⟩ := rfl
      rw [eB]
      cases hv : boundV xs[j].data.toList with
      | none => exact Ev.ite_neg (by decide) (Ev.now _)
      | some q =>
        rw [hv] at eB
        simp only [Option.map_some] at eB ⊢
        refine Ev.ite_pos rfl ?_
        have := ih (j + 1) (acc ++ [⟨q.1, ⟨q.2.toArray⟩⟩]) (by omega) (by simp; omega) (fun l hl => by
          have := hm (⟨q.1, ⟨q.2.toArray⟩⟩ :: l) (by rw [mapO_cons, eB, hl])
          rw [this, List.append_assoc]
          rfl)
        cases hr : mapO boundB (xs.drop (j + 1)) with
        | none =>
          rw [hr] at this
          exact this
        | some l =>
          rw [hr] at this
          simp only [List.append_assoc, List.cons_append, List.nil_append] at this ⊢
          exact this
theorem rparse_l0 (ps : List ByteArray) (hp : ∀ p ∈ ps, p.size ≤ 100000) (hpl : ps.length ≤ 200000) : ∀ (d i : Nat) (acc : List (List PRq.S59)), i + d = ps.length → acc.length ≤ i → (∀ row ∈ acc, row.length ≤ 1000000 ∧ ∀ b ∈ row, b.f1.size ≤ 100000) →
    Ev (fun k => tithebarnref14_Parse.l0 k acc ps (i : Int)) (match mapO partR (ps.drop i) with | none => ([], 140) | some l => finR (acc ++ l)) := by
  intro d
  induction d with
  | zero =>
    intro i acc hi ha hacc
    have e : i = ps.length := by omega
    subst e
    rw [List.drop_length]
    show Ev _ (finR (acc ++ []))
    rw [List.append_nil]
    have hm := May_ev acc (by omega) (fun row hr => (hacc row hr).1) (fun row hr => (hacc row hr).2)
    refine Ev.step (f := fun k => (tithebarnref14_May.f k acc).bind fun t143 => (if t143 = true then (some (acc, (0 : Int))) else (some (([] : List (List PRq.S59)), (140 : Int))))) (fun k => ?_) (Ev.bind hm ?_)
    · simp only [tithebarnref14_Parse.l0]
      rw [if_neg (by omega)]
    · unfold finR
      cases rightV acc with
      | true => exact Ev.ite_pos rfl (Ev.now _)
      | false => exact Ev.ite_neg (by decide) (Ev.now _)
  | succ d ih =>
    intro i acc hi ha hacc
    have hil : i < ps.length := by omega
    have hps := hp _ (List.getElem_mem hil)
    have hget : rdOf ByteArray.empty ps (i : Int) = ps[i] := by rw [rdS_nat, List.getD_eq_getElem?_getD, List.getElem?_eq_getElem hil]; rfl
    have hsp := rsplit_ev 44 ps[i] (by omega)
    rw [List.drop_eq_getElem_cons hil]
    refine Ev.step (f := fun k => (tithebarnref14_split.f k ps[i] 44).bind fun t145 => (tithebarnref14_Parse.l1 k acc ps (i : Int) ([] : List PRq.S59) t145 0)) (fun k => ?_) (Ev.bind hsp ?_)
    · simp only [tithebarnref14_Parse.l0]
      rw [if_pos (by omega), if_pos (by omega), hget]
    · have hxs : ∀ x ∈ splitB 44 ps[i], x.size ≤ 100000 := fun x hx => by
        obtain ⟨q, hq, e2⟩ := List.getElem_of_mem hx
        have := splitB_le (c := 44) (s := ps[i]) (x := x) (i := q) (by rw [List.getElem?_eq_getElem hq, e2])
        omega
      have hlen : (splitB 44 ps[i]).length ≤ 1000000 := by
        have h2 : ∀ (c : UInt8) (l : List UInt8), (splitOn c l).length ≤ l.length + 1 := by
          intro c l
          induction l with
          | nil => simp [splitOn]
          | cons b t ih =>
            unfold splitOn
            split
            · simp only [List.length_cons]
              omega
            · split
              · next e =>
                rw [e] at ih
                simp only [List.length_cons] at ih ⊢
                omega
              · simp
        have := h2 44 ps[i].data.toList
        have e1 := ba_size ps[i]
        unfold splitB
        rw [List.length_map]
        omega
      have h1 := rparse_l1 ps acc i (by omega) (by omega) (splitB 44 ps[i]) hxs hlen (fun row => match mapO partR (ps.drop (i + 1)) with | none => ([], 140) | some l => finR (acc ++ [row] ++ l)) (fun row hrow => by
        have hok := partR_ok (p := ps[i]) hrow
        exact ih (i + 1) (acc ++ [row]) (by omega) (by simp; omega) (fun row' hr' => by
          rcases List.mem_append.1 hr' with hr' | hr'
          · exact hacc row' hr'
          · rw [List.mem_singleton.1 hr']
            exact ⟨by omega, fun b hb => by have := (hok.2.2 b hb).2.2; omega⟩)) (splitB 44 ps[i]).length 0 [] (by omega) (by simp) (fun l hl => by rw [List.drop_zero] at hl; simpa using hl)
      rw [List.drop_zero] at h1
      rw [mapO_cons]
      have eP : partR ps[i] = mapO boundB (splitB 44 ps[i]) := rfl
      rw [eP]
      cases hr : mapO boundB (splitB 44 ps[i]) with
      | none =>
        rw [hr] at h1
        exact h1
      | some row =>
        rw [hr] at h1
        simp only [List.nil_append] at h1
        cases hq : mapO partR (ps.drop (i + 1)) with
        | none =>
          rw [hq] at h1
          exact h1
        | some l =>
          rw [hq] at h1
          simp only [List.append_assoc, List.cons_append, List.nil_append] at h1 ⊢
          exact h1
theorem parse_out (s : ByteArray) : (match mapO partR (splitB 124 s) with | none => ([], 140) | some l => finR l) = outF (parseR s) := by
  unfold parseR
  cases h : mapO partR (splitB 124 s) with
  | none => rfl
  | some r =>
    simp only []
    unfold finR
    have hr : rightV r = (decide (r.length ≤ 16) && fewR r) := by
      unfold rightV fewR
      congr 1
      refine all_cg fun row hrow => ?_
      obtain ⟨p, hp, e⟩ := mapO_mem h row hrow
      obtain ⟨h1, h2, h3⟩ := partR_ok e
      unfold rowOk
      rw [decide_eq_true h1, Bool.true_and, List.all_eq_true.2 fun b hb => (h3 b hb).1, Bool.and_true]
    by_cases hc : r.length ≤ 16 ∧ fewR r = true
    · rw [if_pos hc, if_pos (by rw [hr, decide_eq_true hc.1, hc.2]; rfl)]
      rfl
    · rw [if_neg hc, if_neg (by rw [hr, Bool.and_eq_true, decide_eq_true_eq]; exact hc)]
      rfl
theorem rParse_ev (s : ByteArray) (hs : s.size ≤ 100000) : Ev (fun k => tithebarnref14_Parse.f k s) (outF (parseR s)) := by
  have hsp := rsplit_ev 124 s (by omega)
  rw [← parse_out]
  have hps : ∀ p ∈ splitB 124 s, p.size ≤ 100000 := fun x hx => by
    obtain ⟨q, hq, e2⟩ := List.getElem_of_mem hx
    have := splitB_le (c := 124) (s := s) (x := x) (i := q) (by rw [List.getElem?_eq_getElem hq, e2])
    omega
  have hpl : (splitB 124 s).length ≤ 200000 := by
    have h2 : ∀ (c : UInt8) (l : List UInt8), (splitOn c l).length ≤ l.length + 1 := by
      intro c l
      induction l with
      | nil => simp [splitOn]
      | cons b t ih =>
        unfold splitOn
        split
        · simp only [List.length_cons]
          omega
        · split
          · next e =>
            rw [e] at ih
            simp only [List.length_cons] at ih ⊢
            omega
          · simp
    have := h2 124 s.data.toList
    have e1 := ba_size s
    unfold splitB
    rw [List.length_map]
    omega
  have h := rparse_l0 (splitB 124 s) hps hpl (splitB 124 s).length 0 [] (by omega) (by simp) (fun row hr => by cases hr)
  rw [List.drop_zero] at h
  exact Ev.bind (g := fun k => tithebarnref14_split.f k s 124) hsp h
/-! #### SameRange of one and the same -/
theorem same_l1 (l : List (List PRq.S59)) (hl : l.length ≤ 1000000) (i : Nat) (hi : i < l.length) (hr : l[i].length ≤ 1000000) (h : Ev (fun k => tithebarnkit_SameRange.l0 k l l ((i + 1 : Nat) : Int)) true) : ∀ (d j : Nat), j + d = l[i].length →
    Ev (fun k => tithebarnkit_SameRange.l1 k l l (i : Int) (j : Int)) true := by
  have hrd := rdL_nat l i hi
  intro d
  induction d with
  | zero =>
    intro j hj
    refine Ev.step (fun k => ?_) h
    simp only [tithebarnkit_SameRange.l1]
    rw [if_pos (by omega), if_pos (by omega), hrd, if_neg (by omega), wrap_id (by omega) (by omega)]
    rfl
  | succ d ih =>
    intro j hj
    refine Ev.step (fun k => ?_) (ih (j + 1) (by omega))
    simp only [tithebarnkit_SameRange.l1]
    rw [if_pos (by omega), if_pos (by omega), hrd, if_pos (by omega), if_pos (by omega), if_pos (by omega), if_pos (by omega), if_neg (by simp), wrap_id (by omega) (by omega)]
    rfl
theorem same_l0r (l : List (List PRq.S59)) (hl : l.length ≤ 1000000) (hr : ∀ row ∈ l, row.length ≤ 1000000) : ∀ (d i : Nat), i + d = l.length → Ev (fun k => tithebarnkit_SameRange.l0 k l l (i : Int)) true := by
  intro d
  induction d with
  | zero =>
    intro i hi
    refine Ev.step (f := fun _ => some true) (fun k => ?_) (Ev.now _)
    simp only [tithebarnkit_SameRange.l0]
    rw [if_neg (by omega)]
  | succ d ih =>
    intro i hi
    have hil : i < l.length := by omega
    have hrd := rdL_nat l i hil
    refine Ev.step (fun k => ?_) (same_l1 l hl i hil (hr _ (List.getElem_mem hil)) (ih (i + 1) (by omega)) l[i].length 0 (by omega))
    simp only [tithebarnkit_SameRange.l0]
    rw [if_pos (by omega), if_pos (by omega), if_pos (by omega), if_pos trivial]
    rfl
theorem Same_ev (l : List (List PRq.S59)) (hl : l.length ≤ 1000000) (hr : ∀ row ∈ l, row.length ≤ 1000000) : Ev (fun k => tithebarnkit_SameRange.f k l l) true := by
  refine Ev.congr (f := fun k => tithebarnkit_SameRange.l0 k l l ((0 : Nat) : Int)) (fun k => ?_) (same_l0r l hl hr l.length 0 (by omega))
  unfold tithebarnkit_SameRange.f
  rw [if_pos rfl]
  rfl
end Go.Proofs.YtnbmdecehlljcaaGreatDoor
