/- Plain laws: the printed functions of the kit. Plain law: VersionOrder. Plain laws: the reference's reading of a version is the program's; VersionParse. Plain laws: the reference's Parse is the program's; VersionParse. Plain laws: the reference's Compare and Texts are the program's; VersionCompare. Plain law: VersionParse. Plain laws: texts there and back; VersionBack. Plain law: VersionCompare. Plain law: VersionSort. Plain law: VersionPrint. What the statements' functions answer, once they answer: true. -/
import Derived.Test.YtnbmdecehlljcaaGreatDoorPVerx8
import Derived.Test.YtnbmdecehlljcaaGreatDoorPVerx18
import Derived.Test.YtnbmdecehlljcaaGreatDoorPVerx7
import Derived.Test.YtnbmdecehlljcaaGreatDoorPVerx13
import Derived.Test.YtnbmdecehlljcaaGreatDoorPVerx16
import Derived.Test.YtnbmdecehlljcaaGreatDoorPVerx9
import Derived.Test.YtnbmdecehlljcaaGreatDoorPVerx10
import Derived.Test.YtnbmdecehlljcaaGreatDoorPVerx17
import Derived.Test.YtnbmdecehlljcaaGreatDoorPVerx15
import Derived.Test.YtnbmdecehlljcaaGreatDoorPVerx5
namespace Go.Proofs.YtnbmdecehlljcaaGreatDoor
open Go.RowKit Go.Proofs.YtnbmdecehlljcaaGreatDoorW.PrintWords Go.Proofs.YtnbmdecehlljcaaGreatDoorW.PrintLast Go.Proofs.YtnbmdecehlljcaaGreatDoorW.PrintMore PVer
set_option linter.unusedVariables false
set_option linter.unusedSimpArgs false
theorem Ev.ite_pos {α : Type} {c : Prop} [Decidable c] {f g : Nat → Option α} {r : α} (h : c) (k : Ev f r) : Ev (fun n => if c then f n else g n) r := Ev.congr (fun n => if_pos h) k
theorem Ev.ite_neg {α : Type} {c : Prop} [Decidable c] {f g : Nat → Option α} {r : α} (h : ¬c) (k : Ev g r) : Ev (fun n => if c then f n else g n) r := Ev.congr (fun n => if_neg h) k
theorem Ev.some_bind {α β : Type} {a : α} {f : Nat → α → Option β} {r : β} (k : Ev (fun n => f n a) r) : Ev (fun n => (some a).bind (f n)) r := Ev.congr (fun n => rfl) k
theorem Ev.const {α : Type} {o : Option α} {r : α} (h : o = some r) : Ev (fun _ => o) r := ⟨0, fun _ _ => h⟩
theorem Ev.obind {α β : Type} {o : Option α} {a : α} {f : Nat → α → Option β} {r : β} (h : o = some a) (k : Ev (fun n => f n a) r) : Ev (fun n => o.bind (f n)) r := by
  subst h; exact Ev.some_bind k
theorem wrap_id {x : Int} (h1 : -9223372036854775808 ≤ x) (h2 : x ≤ 9223372036854775807) : wrap64 x = x := by unfold wrap64; omega
theorem rd_nat (xs : List Int) (i : Nat) : rd xs (i : Int) = xs.getD i 0 := rfl
theorem rdS_nat (xs : List ByteArray) (i : Nat) : rdOf ByteArray.empty xs (i : Int) = xs.getD i ByteArray.empty := rfl
theorem same_l0 (a b : List Int) (he : a.length = b.length) (hl : a.length ≤ 1000000000) : ∀ (d i : Nat), i + d = a.length → (∀ q, q < i → a.getD q 0 = b.getD q 0) → Ev (fun k => tithebarnkit_SameInts.l0 k a b i) (decide (a = b)) := by
  intro d
  induction d with
  | zero =>
    intro i hi hq
    have : a = b := List.ext_getElem he (fun q q1 q2 => by have := hq q (by omega); simpa [q1, q2] using this)
    rw [decide_eq_true this]
    refine Ev.step (f := fun _ => some true) (fun k => ?_) (Ev.now _)
    simp only [tithebarnkit_SameInts.l0]
    rw [if_neg (by omega)]
  | succ d ih =>
    intro i hi hq
    by_cases e : a.getD i 0 = b.getD i 0
    · refine Ev.step (fun k => ?_) (ih (i + 1) (by omega) (fun q hq' => by
        by_cases e' : q = i
        · rw [e']; exact e
        · exact hq q (by omega)))
      simp only [tithebarnkit_SameInts.l0]
      rw [if_pos (by omega), if_pos (by omega), if_pos (by omega), rd_nat, rd_nat, if_pos e, wrap_id (by omega) (by omega)]
      rfl
    · rw [decide_eq_false (fun h => e (by rw [h]))]
      refine Ev.step (f := fun _ => some false) (fun k => ?_) (Ev.now _)
      simp only [tithebarnkit_SameInts.l0]
      rw [if_pos (by omega), if_pos (by omega), if_pos (by omega), rd_nat, rd_nat, if_neg e]
theorem same_ev (a b : List Int) (hl : a.length ≤ 1000000000) : Ev (fun k => tithebarnkit_SameInts.f k a b) (decide (a = b)) := by
  by_cases h : a.length = b.length
  · refine Ev.congr (f := fun k => tithebarnkit_SameInts.l0 k a b ((0 : Nat) : Int)) (fun k => by unfold tithebarnkit_SameInts.f; rw [if_pos (by omega)]; rfl) (same_l0 a b h hl a.length 0 (by omega) (fun q hq => absurd hq (Nat.not_lt_zero _)))
  · rw [decide_eq_false (fun e => h (by rw [e]))]
    exact Ev.congr (f := fun _ => some false) (fun k => by unfold tithebarnkit_SameInts.f; rw [if_neg (by omega)]) (Ev.now _)
theorem works_bind {α : Type} (f : Bool → Option α) : (tithebarnlaw13_works.f).bind f = f true := rfl
theorem compare_f (a : List Int) (s : ByteArray) (b : List Int) (t : ByteArray) (h1 : a.length ≤ 100) (h2 : b.length ≤ 100) (h3 : s.size ≤ 100) (h4 : t.size ≤ 100) : version_Compare.f a s b t = some (cmpV a s.data.toList b t.data.toList) := by
  unfold version_Compare.f
  rw [if_pos ⟨by omega, by omega, by omega, by omega⟩]
theorem ba_eq {s t : ByteArray} : s = t ↔ s.data.toList = t.data.toList := ⟨fun h => by rw [h], fun h => ByteArray.ext (Array.ext' h)⟩
end Go.Proofs.YtnbmdecehlljcaaGreatDoor
namespace Go.Proofs.YtnbmdecehlljcaaGreatDoor
open Go.RowKit Go.Lib Go.Proofs.YtnbmdecehlljcaaGreatDoorW.PrintWords Go.Proofs.YtnbmdecehlljcaaGreatDoorW.PrintLast Go.Proofs.YtnbmdecehlljcaaGreatDoorW.PrintMore PVer
set_option linter.unusedVariables false
set_option linter.unusedSimpArgs false
theorem order_j1 (a : List Int) (s : ByteArray) (b : List Int) (t : ByteArray) (c : List Int) (u : ByteArray) (h1 : a.length ≤ 100) (h2 : b.length ≤ 100) (h3 : s.size ≤ 100) (h4 : t.size ≤ 100) :
    Ev (fun k => tithebarnlaw13_VersionOrder.j1 k (cmpV a s.data.toList b t.data.toList) (cmpV b t.data.toList c u.data.toList) (cmpV a s.data.toList c u.data.toList) (decide (a = b ∧ s = t)) a s b t) true := by
  have hn := cmpV_neg a s.data.toList b t.data.toList
  have hz := cmpV_zero a s.data.toList b t.data.toList
  have hr := cmpV_range a s.data.toList b t.data.toList
  have ht := cmpV_trans a s.data.toList b t.data.toList c u.data.toList
  have hzz : ((cmpV a s.data.toList b t.data.toList == 0) != decide (a = b ∧ s = t)) = false := by
    by_cases h : cmpV a s.data.toList b t.data.toList = 0
    · rw [h, decide_eq_true (by have := hz.1 h; exact ⟨this.1, ba_eq.2 this.2⟩)]
      rfl
    · rw [decide_eq_false (fun hh => h (hz.2 ⟨hh.1, ba_eq.1 hh.2⟩))]
      simp [h]
  refine Ev.step (f := fun _ => some true) (fun k => ?_) (Ev.now _)
  simp only [tithebarnlaw13_VersionOrder.j1]
  rw [compare_f b t a s h2 h1 h4 h3, Option.bind_some, hn]
  generalize cmpV a s.data.toList b t.data.toList = x at *
  generalize cmpV b t.data.toList c u.data.toList = y at *
  generalize cmpV a s.data.toList c u.data.toList = z at *
  have hw : wrap64 (- -x) = x := by rw [Int.neg_neg]; exact wrap_id (by omega) (by omega)
  rw [hw, if_pos rfl, if_neg (by rw [hzz]; decide), if_neg (by omega), if_neg (by omega)]
  simp only [works_bind]
  by_cases x0 : x ≤ 0
  · rw [if_pos x0]
    by_cases y0 : y ≤ 0
    · rw [if_pos y0, if_neg (by have := ht.1 x0 y0; omega)]
      by_cases x1 : x < 0
      · rw [if_pos x1, if_neg (by have := ht.2.1 x1 y0; omega)]
      · rw [if_neg x1]
    · rw [if_neg y0]
      by_cases x1 : x < 0
      · rw [if_pos x1]
      · rw [if_neg x1]
  · rw [if_neg x0, if_neg (by omega)]
theorem order_j0 (a : List Int) (s : ByteArray) (b : List Int) (t : ByteArray) (c : List Int) (u : ByteArray) (f : Bool) (h1 : a.length ≤ 100) (h2 : b.length ≤ 100) (h5 : c.length ≤ 100) (h3 : s.size ≤ 100) (h4 : t.size ≤ 100) (hf : f = decide ((u.size : Int) > 100)) :
    Ev (fun k => tithebarnlaw13_VersionOrder.j0 k f a s b t c u) true := by
  by_cases h6 : u.size ≤ 100
  · have : f = false := by rw [hf]; simp; omega
    subst this
    refine Ev.step (f := fun k => (tithebarnkit_SameInts.f k a b).bind fun t185 => (if t185 = true then (tithebarnlaw13_VersionOrder.j1 k (cmpV a s.data.toList b t.data.toList) (cmpV b t.data.toList c u.data.toList) (cmpV a s.data.toList c u.data.toList) (s.toList == t.toList) a s b t) else (tithebarnlaw13_VersionOrder.j1 k (cmpV a s.data.toList b t.data.toList) (cmpV b t.data.toList c u.data.toList) (cmpV a s.data.toList c u.data.toList) false a s b t))) (fun k => ?_) (Ev.bind (same_ev a b (by omega)) ?_)
    · simp only [tithebarnlaw13_VersionOrder.j0]
      rw [if_neg (by decide), compare_f a s b t h1 h2 h3 h4, compare_f b t c u h2 h5 h4 h6, compare_f a s c u h1 h5 h3 h6]
      rfl
    · have hj := order_j1 a s b t c u h1 h2 h3 h4
      by_cases e : a = b
      · refine Ev.ite_pos (by simpa using e) ?_
        have : (s.toList == t.toList) = decide (a = b ∧ s = t) := by
          rw [ByteArray.toList_eq, ByteArray.toList_eq, Bool.eq_iff_iff]
          simp [e, ba_eq]
        rw [this]
        exact hj
      · refine Ev.ite_neg (by simpa using e) ?_
        have : decide (a = b ∧ s = t) = false := by simp [e]
        rw [this] at hj
        exact hj
  · have : f = true := by rw [hf]; simp; omega
    subst this
    refine Ev.step (f := fun _ => some true) (fun k => ?_) (Ev.now _)
    simp only [tithebarnlaw13_VersionOrder.j0]
    rfl
theorem order_true (a : List Int) (s : ByteArray) (b : List Int) (t : ByteArray) (c : List Int) (u : ByteArray) : Ev (fun k => tithebarnlaw13_VersionOrder.j0 k true a s b t c u) true := by
  refine Ev.step (f := fun _ => some true) (fun k => ?_) (Ev.now _)
  simp only [tithebarnlaw13_VersionOrder.j0]
  rfl
theorem true_VersionOrder : ∀ (l0_0 : (List Int)) (a0_1 : ByteArray) (l1_0 : (List Int)) (a1_1 : ByteArray) (l2_0 : (List Int)) (a2_1 : ByteArray), Ev (fun k => PVer.tithebarnlaw13_VersionOrder.f k l0_0 a0_1 l1_0 a1_1 l2_0 a2_1) true := by
  intro a s b t c u
  have hT := order_true a s b t c u
  unfold tithebarnlaw13_VersionOrder.f
  by_cases h1 : (a.length : Int) > 100
  · exact Ev.ite_pos h1 hT
  · refine Ev.ite_neg h1 ?_
    by_cases h2 : (b.length : Int) > 100
    · exact Ev.ite_pos h2 hT
    · refine Ev.ite_neg h2 ?_
      by_cases h3 : (c.length : Int) > 100
      · exact Ev.ite_pos h3 hT
      · refine Ev.ite_neg h3 ?_
        by_cases h4 : (s.size : Int) > 100
        · exact Ev.ite_pos h4 hT
        · refine Ev.ite_neg h4 ?_
          by_cases h5 : (t.size : Int) > 100
          · exact Ev.ite_pos h5 hT
          · refine Ev.ite_neg h5 ?_
            exact order_j0 a s b t c u _ (by omega) (by omega) (by omega) (by omega) (by omega) rfl
theorem pure_VersionOrder : ∀ (l0_0 : (List Int)) (a0_1 : ByteArray) (l1_0 : (List Int)) (a1_1 : ByteArray) (l2_0 : (List Int)) (a2_1 : ByteArray), (l0_0.length ≤ maxLen ∧ ∀ y0 ∈ l0_0, (Lit.int .i64 y0).wf = true) → a0_1.size ≤ maxLen → (l1_0.length ≤ maxLen ∧ ∀ y0 ∈ l1_0, (Lit.int .i64 y0).wf = true) → a1_1.size ≤ maxLen → (l2_0.length ≤ maxLen ∧ ∀ y0 ∈ l2_0, (Lit.int .i64 y0).wf = true) → a2_1.size ≤ maxLen → ∃ k, PVer.tithebarnlaw13_VersionOrder.f k l0_0 a0_1 l1_0 a1_1 l2_0 a2_1 = some true := fun a s b t c u _ _ _ _ _ _ => Ev.rounds (true_VersionOrder a s b t c u)
end Go.Proofs.YtnbmdecehlljcaaGreatDoor
namespace Go.Proofs.YtnbmdecehlljcaaGreatDoor
open Go.RowKit Go.Lib Go.Proofs.YtnbmdecehlljcaaGreatDoorW.PrintWords Go.Proofs.YtnbmdecehlljcaaGreatDoorW.PrintLast Go.Proofs.YtnbmdecehlljcaaGreatDoorW.PrintMore PVer
set_option linter.unusedVariables false
set_option linter.unusedSimpArgs false
theorem bt_nat (s : ByteArray) (i : Nat) (h : i < s.data.toList.length) : bt s (i : Int) = ((s.data.toList[i]'h).toNat : Int) := by
  unfold bt
  have h2 : (i : Int).toNat < s.size := by have := Lib.size_eq s; simp; omega
  rw [dif_pos h2]
  congr 1
theorem ext_list (s : ByteArray) (i j : Nat) : (s.extract i j).data.toList = (s.data.toList.drop i).take (j - i) := by
  rw [ByteArray.data_extract, Array.toList_extract]
theorem isTagB_int (b : UInt8) : isTagB b = true ↔ (97 ≤ (b.toNat : Int) ∧ (b.toNat : Int) ≤ 122) ∨ (48 ≤ (b.toNat : Int) ∧ (b.toNat : Int) ≤ 57) := by
  unfold isTagB
  simp
  omega
theorem tag_l0 (s : ByteArray) (hs : s.size ≤ 1000000) : ∀ (d i : Nat), i + d = s.size → Ev (fun k => tithebarnref13_tag.l0 k s (i : Int)) ((s.data.toList.drop i).all isTagB && decide (s.size ≤ 16)) := by
  have hL : s.data.toList.length = s.size := (Lib.size_eq s).symm
  intro d
  induction d with
  | zero =>
    intro i hi
    rw [List.drop_eq_nil_of_le (by omega), List.all_nil, Bool.true_and]
    refine Ev.step (f := fun _ => some (decide (s.size ≤ 16))) (fun k => ?_) (Ev.now _)
    simp only [tithebarnref13_tag.l0]
    rw [if_neg (by omega)]
    congr 1
    exact decide_eq_decide.2 (by omega)
  | succ d ih =>
    intro i hi
    have hil : i < s.data.toList.length := by omega
    have hb := bt_nat s i hil
    rw [List.drop_eq_getElem_cons hil, List.all_cons]
    have ht := isTagB_int (s.data.toList[i]'hil)
    generalize s.data.toList[i]'hil = b at *
    by_cases hg : isTagB b = true
    · rw [hg, Bool.true_and]
      have hr := ht.1 hg
      refine Ev.step (fun k => ?_) (ih (i + 1) (by omega))
      simp only [tithebarnref13_tag.l0]
      rw [if_pos (by omega), if_pos (by omega), hb, wrap_id (by omega) (by omega)]
      by_cases c1 : (b.toNat : Int) < 97
      · rw [if_pos c1, if_neg (by omega), if_neg (by omega)]; rfl
      · rw [if_neg c1, if_neg (by omega)]; rfl
    · have hr : ¬ ((97 ≤ (b.toNat : Int) ∧ (b.toNat : Int) ≤ 122) ∨ (48 ≤ (b.toNat : Int) ∧ (b.toNat : Int) ≤ 57)) := fun h => hg (ht.2 h)
      rw [Bool.eq_false_iff.2 hg, Bool.false_and, Bool.false_and]
      refine Ev.step (f := fun _ => some false) (fun k => ?_) (Ev.now _)
      simp only [tithebarnref13_tag.l0]
      rw [if_pos (by omega), if_pos (by omega), hb]
      by_cases c1 : (b.toNat : Int) < 97
      · rw [if_pos c1]
        by_cases c2 : (b.toNat : Int) < 48
        · rw [if_pos c2]
        · rw [if_neg c2, if_pos (by omega)]
      · rw [if_neg c1, if_pos (by omega), if_neg (by omega), if_pos (by omega)]
theorem tag_ev (s : ByteArray) (hs : s.size ≤ 1000000) : Ev (fun k => tithebarnref13_tag.f k s) (tagB s.data.toList) := by
  have h := tag_l0 s hs s.size 0 (by omega)
  rw [List.drop_zero] at h
  have e : tagB s.data.toList = (s.data.toList.all isTagB && decide (s.size ≤ 16)) := by
    unfold tagB
    rw [Bool.and_comm, ← Lib.size_eq]
  rw [e]
  exact h
def nzB (s : ByteArray) : Bool := (s.data.toList == [48]) || (decide (0 < s.size) && (s.data.toList.head? != some 48))
theorem isDig_int (b : UInt8) : isDig b = true ↔ 48 ≤ (b.toNat : Int) ∧ (b.toNat : Int) ≤ 57 := by
  unfold isDig
  simp
  omega
theorem number_l0 (s : ByteArray) (hs : s.size ≤ 1000000) : ∀ (d i acc : Nat), i + d = s.size → i ≤ 9 → acc < 10 ^ i →
    Ev (fun k => tithebarnref13_number.l0 k s (acc : Int) (i : Int)) (if ((s.data.toList.drop i).all isDig && decide (s.size ≤ 9)) = true then ((valF acc (s.data.toList.drop i) : Int), nzB s) else (0, false)) := by
  have hL : s.data.toList.length = s.size := (Lib.size_eq s).symm
  intro d
  induction d with
  | zero =>
    intro i acc hi h9 ha
    rw [List.drop_eq_nil_of_le (by omega), List.all_nil, Bool.true_and, decide_eq_true (by omega), if_pos rfl]
    refine Ev.step (f := fun _ => some ((acc : Int), nzB s)) (fun k => ?_) (Ev.now _)
    simp only [tithebarnref13_number.l0]
    rw [if_neg (by omega), ByteArray.toList_eq]
    unfold nzB
    by_cases c1 : s.data.toList = [48]
    · rw [if_pos c1, c1]; rfl
    · rw [if_neg c1]
      have c1' : (s.data.toList == [48]) = false := by simpa using c1
      rw [c1', Bool.false_or]
      by_cases c2 : (s.size : Int) > 0
      · rw [if_pos c2, if_pos c2]
        have hb := bt_nat s 0 (by omega)
        have e : bt s 0 = ((s.data.toList[0]'(by omega)).toNat : Int) := hb
        rw [e, decide_eq_true (by omega), Bool.true_and]
        have hh : s.data.toList.head? = some (s.data.toList[0]'(by omega)) := by
          rw [List.head?_eq_getElem?, List.getElem?_eq_getElem (by omega)]
        rw [hh]
        generalize s.data.toList[0]'(by omega) = b
        congr 2
        rw [Bool.eq_iff_iff]
        simp only [bne_iff_ne, ne_eq, Option.some.injEq]
        constructor
        · intro h hb; apply h; rw [hb]; rfl
        · intro h hb; apply h; exact UInt8.toNat_inj.1 (by have : (48 : UInt8).toNat = 48 := rfl; omega)
      · rw [if_neg c2, decide_eq_false (by omega), Bool.false_and]
  | succ d ih =>
    intro i acc hi h9 ha
    have hil : i < s.data.toList.length := by omega
    have hb := bt_nat s i hil
    rw [List.drop_eq_getElem_cons hil, List.all_cons]
    have ht := isDig_int (s.data.toList[i]'hil)
    generalize s.data.toList[i]'hil = b at *
    by_cases hg : isDig b = true
    · have hr := ht.1 hg
      rw [hg, Bool.true_and]
      by_cases h8 : i = 9
      · rw [decide_eq_false (show ¬ s.size ≤ 9 by omega), Bool.and_false, if_neg (by decide)]
        refine Ev.step (f := fun _ => some (0, false)) (fun k => ?_) (Ev.now _)
        simp only [tithebarnref13_number.l0]
        rw [if_pos (by omega), if_pos (by omega), hb, if_neg (by omega), if_neg (by omega), if_pos (by omega)]
      · have hp : 10 ^ (i + 1) = 10 ^ i * 10 := Nat.pow_succ ..
        have hp8 : 10 ^ i ≤ 10 ^ 8 := Nat.pow_le_pow_right (by omega) (by omega)
        have := ih (i + 1) (acc * 10 + (b.toNat - 48)) (by omega) (by omega) (by omega)
        rw [valF_cons]
        refine Ev.step (fun k => ?_) this
        simp only [tithebarnref13_number.l0]
        rw [if_pos (by omega), if_pos (by omega), hb, if_neg (by omega), if_neg (by omega), if_neg (by omega), wrap_id (x := (acc : Int) * 10) (by omega) (by omega), wrap_id (x := (acc : Int) * 10 + _) (by omega) (by omega), wrap_id (x := (i : Int) + 1) (by omega) (by omega)]
        congr 1
        omega
    · have hr : ¬ (48 ≤ (b.toNat : Int) ∧ (b.toNat : Int) ≤ 57) := fun h => hg (ht.2 h)
      rw [Bool.eq_false_iff.2 hg, Bool.false_and, Bool.false_and, if_neg (by decide)]
      refine Ev.step (f := fun _ => some (0, false)) (fun k => ?_) (Ev.now _)
      simp only [tithebarnref13_number.l0]
      rw [if_pos (by omega), if_pos (by omega), hb]
      by_cases c1 : (b.toNat : Int) < 48
      · rw [if_pos c1]
      · rw [if_neg c1, if_pos (by omega)]
theorem number_ev (s : ByteArray) (hs : s.size ≤ 1000000) : ∃ v : Int, Ev (fun k => tithebarnref13_number.f k s) (v, canonB s.data.toList) ∧ (canonB s.data.toList = true → v = valF 0 s.data.toList) := by
  have h := number_l0 s hs s.size 0 0 (by omega) (by omega) (by decide)
  rw [List.drop_zero] at h
  have hL : s.data.toList.length = s.size := (Lib.size_eq s).symm
  by_cases c : (s.data.toList.all isDig && decide (s.size ≤ 9)) = true
  · rw [if_pos c] at h
    have e : nzB s = canonB s.data.toList := by
      simp only [Bool.and_eq_true, decide_eq_true_eq] at c
      unfold nzB canonB
      rw [c.1, hL, decide_eq_true c.2, Bool.true_and, Bool.and_true]
      cases hl : s.data.toList with
      | nil => rw [hl] at hL; simp at hL; simp [← hL]
      | cons x r =>
        rw [hl] at hL
        simp only [List.length_cons] at hL
        rw [decide_eq_true (show 0 < s.size by omega), decide_eq_true (show 1 ≤ s.size by omega)]
        simp
    rw [e] at h
    exact ⟨_, h, fun _ => rfl⟩
  · rw [if_neg c] at h
    have e : canonB s.data.toList = false := by
      rw [Bool.eq_false_iff]
      intro hc
      apply c
      unfold canonB at hc
      simp only [Bool.and_eq_true, decide_eq_true_eq] at hc ⊢
      exact ⟨hc.1.1.1, by omega⟩
    rw [e]
    exact ⟨_, h, fun h => by cases h⟩
end Go.Proofs.YtnbmdecehlljcaaGreatDoor
namespace Go.Proofs.YtnbmdecehlljcaaGreatDoor
open Go.RowKit Go.Lib Go.Proofs.YtnbmdecehlljcaaGreatDoorW.PrintWords Go.Proofs.YtnbmdecehlljcaaGreatDoorW.PrintLast Go.Proofs.YtnbmdecehlljcaaGreatDoorW.PrintMore PVer
set_option linter.unusedVariables false
set_option linter.unusedSimpArgs false
def finishP (nums : List Int) (ps : List (List UInt8)) (tag : ByteArray) : List Int × ByteArray × Int := match partsNums ps with
  | none => ([], ⟨#[]⟩, 130)
  | some ns => if (nums ++ ns).length > 8 then ([], ⟨#[]⟩, 130) else (nums ++ ns, tag, 0)
theorem finish_cons (nums : List Int) (p : List UInt8) (r : List (List UInt8)) (tag : ByteArray) (u : Nat) (h : progNum p = some u) : finishP nums (p :: r) tag = finishP (nums ++ [(u : Int)]) r tag := by
  unfold finishP
  conv => lhs; rw [partsNums]
  rw [h]
  cases partsNums r with
  | none => rfl
  | some l => simp
theorem finish_bad (nums : List Int) (p : List UInt8) (r : List (List UInt8)) (tag : ByteArray) (h : progNum p = none) : finishP nums (p :: r) tag = ([], ⟨#[]⟩, 130) := by
  unfold finishP
  rw [partsNums, h]
theorem take_snoc {α : Type} (l : List α) (n : Nat) (h : n < l.length) : l.take (n + 1) = l.take n ++ [l[n]] := by
  rw [List.take_add_one, List.getElem?_eq_getElem h]
  rfl
/-- One part, read: the road behind the part's end. -/
theorem parse_part (s tag : ByteArray) (E i from_ : Nat) (nums : List Int) (hs : s.size ≤ 500) (hi : i ≤ s.size) (hf : from_ ≤ i) (hn : nums.length ≤ i)
    (R : List Int × ByteArray × Int) (p : List UInt8) (hp : p = (s.data.toList.drop from_).take (i - from_))
    (hgood : ∀ u : Nat, progNum p = some u → Ev (fun k => tithebarnref13_Parse.l1 k s (E : Int) ((i + 1 : Nat) : Int) ((i + 1 : Nat) : Int) (nums ++ [(u : Int)]) tag) R)
    (hbad : progNum p = none → R = ([], ⟨#[]⟩, 130)) :
    Ev (fun k => tithebarnref13_Parse.j3 k s (E : Int) (from_ : Int) (i : Int) false nums tag) R := by
  have he := ext_list s from_ i
  have hsz : (s.extract from_ i).size ≤ 1000000 := by
    rw [Lib.size_eq, he, List.length_take, List.length_drop, ← Lib.size_eq]
    omega
  obtain ⟨v, hv, hvc⟩ := number_ev (s.extract from_ i) hsz
  rw [he, ← hp] at hv hvc
  refine Ev.step (f := fun k => (tithebarnref13_number.f k (s.extract from_ i)).bind fun bt104 => (if bt104.2 = true then (if nums.length < 17592186044416 then (tithebarnref13_Parse.l1 k s (E : Int) ((i + 1 : Nat) : Int) ((i + 1 : Nat) : Int) (nums ++ [bt104.1]) tag) else (none)) else (some (([] : List Int), (⟨#[]⟩ : ByteArray), 130)))) (fun k => ?_) (Ev.bind hv ?_)
  · simp only [tithebarnref13_Parse.j3]
    rw [if_neg (by decide), if_pos (by omega), if_pos (by omega), if_pos (by omega), wrap_id (by omega) (by omega)]
    rfl
  · by_cases hc : canonB p = true
    · have hpn : progNum p = some (valF 0 p) := by rw [progNum_eq, if_pos hc]
      refine Ev.ite_pos hc (Ev.ite_pos (by omega) ?_)
      have := hgood _ hpn
      rw [← hvc hc] at this
      exact this
    · have hpn : progNum p = none := by rw [progNum_eq, if_neg hc]
      refine Ev.ite_neg hc ?_
      rw [hbad hpn]
      exact Ev.now _
theorem parse_done (s tag : ByteArray) (E : Nat) (hs : s.size ≤ 500) (hE : E ≤ s.size) (nums : List Int) : Ev (fun k => tithebarnref13_Parse.l1 k s (E : Int) ((E + 1 : Nat) : Int) ((E + 1 : Nat) : Int) nums tag) (finishP nums [] tag) := by
  refine Ev.step (f := fun _ => some (finishP nums [] tag)) (fun k => ?_) (Ev.now _)
  simp only [tithebarnref13_Parse.l1]
  rw [if_neg (by omega)]
  unfold finishP
  simp only [partsNums, List.append_nil]
  by_cases h : nums.length > 8
  · rw [if_pos (by omega), if_pos h]
  · rw [if_neg (by omega), if_neg h]
theorem parse_l1 (s tag : ByteArray) (E : Nat) (hs : s.size ≤ 500) (hE : E ≤ s.size) : ∀ (d i from_ : Nat) (nums : List Int), i + d = E → from_ ≤ i → nums.length ≤ i → (46 : UInt8) ∉ ((s.data.toList.take E).drop from_).take (i - from_) →
    Ev (fun k => tithebarnref13_Parse.l1 k s (E : Int) (from_ : Int) (i : Int) nums tag) (finishP nums (splitOn 46 ((s.data.toList.take E).drop from_)) tag) := by
  have hL : s.data.toList.length = s.size := (Lib.size_eq s).symm
  have haL : (s.data.toList.take E).length = E := by rw [List.length_take]; omega
  have hpe : ∀ i from_, i ≤ E → from_ ≤ i → (s.data.toList.drop from_).take (i - from_) = ((s.data.toList.take E).drop from_).take (i - from_) := by
    intro i from_ h1 h2
    rw [List.drop_take, List.take_take]
    congr 1
    omega
  intro d
  induction d with
  | zero =>
    intro i from_ nums hi hf hn h46
    have hiE : i = E := by omega
    subst hiE
    have hall : ((s.data.toList.take i).drop from_).take (i - from_) = (s.data.toList.take i).drop from_ := List.take_of_length_le (by rw [List.length_drop, haL]; omega)
    rw [hall] at h46
    refine Ev.step (f := fun k => tithebarnref13_Parse.j3 k s (i : Int) (from_ : Int) (i : Int) false nums tag) (fun k => ?_) (parse_part s tag i i from_ nums hs (by omega) hf hn _ _ rfl ?_ ?_)
    · simp only [tithebarnref13_Parse.l1]
      rw [if_pos (by omega), if_neg (by omega)]
    · intro u hu
      rw [hpe i from_ (Nat.le_refl _) hf, hall] at hu
      rw [splitOn_none 46 _ h46, finish_cons _ _ _ _ _ hu]
      exact parse_done s tag i hs hE _
    · intro hu
      rw [hpe i from_ (Nat.le_refl _) hf, hall] at hu
      rw [splitOn_none 46 _ h46]
      exact finish_bad _ _ _ _ hu
  | succ d ih =>
    intro i from_ nums hi hf hn h46
    have hil : i < s.data.toList.length := by omega
    have hb := bt_nat s i hil
    have hia : i < (s.data.toList.take E).length := by omega
    have hget : (s.data.toList.take E)[i]'hia = s.data.toList[i]'hil := by simp
    have hdf : i - from_ < ((s.data.toList.take E).drop from_).length := by rw [List.length_drop]; omega
    have hgf : ((s.data.toList.take E).drop from_)[i - from_]'hdf = s.data.toList[i]'hil := by
      rw [← hget, List.getElem_drop]
      congr 1
      omega
    by_cases hc : s.data.toList[i]'hil = 46
    · have hflag : ((bt s (i : Int)) != 46) = false := by rw [hb, hc]; rfl
      have hsplit : (s.data.toList.take E).drop from_ = ((s.data.toList.take E).drop from_).take (i - from_) ++ 46 :: (s.data.toList.take E).drop (i + 1) := by
        conv => lhs; rw [← List.take_append_drop (i - from_) ((s.data.toList.take E).drop from_)]
        congr 1
        rw [List.drop_eq_getElem_cons hdf, hgf, hc, List.drop_drop]
        congr 2
        omega
      refine Ev.step (f := fun k => tithebarnref13_Parse.j3 k s (E : Int) (from_ : Int) (i : Int) false nums tag) (fun k => ?_) (parse_part s tag E i from_ nums hs (by omega) hf hn _ _ rfl ?_ ?_)
      · simp only [tithebarnref13_Parse.l1]
        rw [if_pos (by omega), if_pos (by omega), if_pos (by omega), if_pos (by omega), hflag]
      · intro u hu
        rw [hpe i from_ (by omega) hf] at hu
        rw [hsplit, splitOn_app 46 _ _ h46, finish_cons _ _ _ _ _ hu]
        exact ih (i + 1) (i + 1) (nums ++ [(u : Int)]) (by omega) (Nat.le_refl _) (by simp; omega) (by simp)
      · intro hu
        rw [hpe i from_ (by omega) hf] at hu
        rw [hsplit, splitOn_app 46 _ _ h46]
        exact finish_bad _ _ _ _ hu
    · have hflag : ((bt s (i : Int)) != 46) = true := by
        rw [hb]
        simp only [bne_iff_ne, ne_eq]
        intro h
        apply hc
        have e2 : (46 : UInt8).toNat = 46 := rfl
        exact UInt8.toNat_inj.1 (by omega)
      have hst : ((s.data.toList.take E).drop from_).take (i + 1 - from_) = ((s.data.toList.take E).drop from_).take (i - from_) ++ [s.data.toList[i]'hil] := by
        rw [show i + 1 - from_ = (i - from_) + 1 by omega, take_snoc _ _ hdf, hgf]
      refine Ev.step (f := fun k => tithebarnref13_Parse.j3 k s (E : Int) (from_ : Int) (i : Int) true nums tag) (fun k => ?_) (Ev.step (f := fun k => tithebarnref13_Parse.l1 k s (E : Int) (from_ : Int) ((i + 1 : Nat) : Int) nums tag) (fun k => ?_) (ih (i + 1) from_ nums (by omega) (by omega) (by omega) ?_))
      · simp only [tithebarnref13_Parse.l1]
        rw [if_pos (by omega), if_pos (by omega), if_pos (by omega), if_pos (by omega), hflag]
      · simp only [tithebarnref13_Parse.j3]
        rw [if_pos trivial, wrap_id (by omega) (by omega)]
        rfl
      · rw [hst]
        simp only [List.mem_append, List.mem_singleton, not_or]
        exact ⟨h46, fun h => hc h.symm⟩
def tripleV (s : ByteArray) : List Int × ByteArray × Int := (numsOf (parseV s.data.toList), ⟨(tagOf (parseV s.data.toList)).toArray⟩, errOf (parseV s.data.toList))
theorem finish_parse (s : ByteArray) (a t : List UInt8) (f : Bool) (hc : cutOn 45 s.data.toList = (a, t, f)) (hok : ¬ (f && t.isEmpty || !tagB t) = true) : finishP [] (splitOn 46 a) ⟨t.toArray⟩ = tripleV s := by
  unfold tripleV parseV finishP
  rw [hc]
  simp only
  rw [if_neg hok]
  cases hp : partsNums (splitOn 46 a) with
  | none =>
    simp only
    split <;> rfl
  | some ns =>
    have hl := (partsNums_some hp).2.1
    simp only [List.nil_append]
    by_cases h8 : 8 < (splitOn 46 a).length
    · rw [if_pos (by omega), if_pos h8]; rfl
    · rw [if_neg (by omega), if_neg h8]; rfl
theorem triple_bad (s : ByteArray) (a t : List UInt8) (f : Bool) (hc : cutOn 45 s.data.toList = (a, t, f)) (hbad : (f && t.isEmpty || !tagB t) = true) : tripleV s = ([], ⟨#[]⟩, 130) := by
  unfold tripleV parseV
  rw [hc]
  simp only
  rw [if_pos hbad]
  rfl
theorem parse_end (s : ByteArray) (hs : s.size ≤ 500) : Ev (fun k => tithebarnref13_Parse.l0 k s ((cutOn 45 s.data.toList).1.length : Int) (-1)) (tripleV s) := by
  have hL : s.data.toList.length = s.size := (Lib.size_eq s).symm
  have hb := cutOn_back 45 s.data.toList
  obtain ⟨⟨a, t, f⟩, hc⟩ : ∃ q, cutOn 45 s.data.toList = q := ⟨_, rfl⟩
  rw [hc] at hb ⊢
  simp only at hb ⊢
  have hj : ∀ (tag : ByteArray), tag = ⟨t.toArray⟩ → (¬ (f && t.isEmpty || !tagB t) = true) → a.length ≤ s.size → a = s.data.toList.take a.length → Ev (fun k => tithebarnref13_Parse.j1 k s (a.length : Int) tag) (tripleV s) := by
    intro tag ht hok hal hat
    have h1 := parse_l1 s tag a.length hs hal a.length 0 0 [] (by omega) (Nat.le_refl _) (by simp) (by simp)
    rw [List.drop_zero, ← hat, ht, finish_parse s a t f hc hok] at h1
    refine Ev.step (f := fun k => tithebarnref13_Parse.l1 k s (a.length : Int) ((0 : Nat) : Int) ((0 : Nat) : Int) [] tag) (fun k => ?_) (by rw [ht]; exact h1)
    simp only [tithebarnref13_Parse.j1]
    rfl
  cases f with
  | true =>
    simp only [if_true] at hb
    have hlen : s.data.toList.length = a.length + (t.length + 1) := by rw [hb.1]; simp
    have hat : a = s.data.toList.take a.length := by conv => rhs; rw [hb.1]; simp
    have hdt : s.data.toList.drop (a.length + 1) = t := by rw [hb.1, List.drop_append]; simp
    have hx := ext_list s (a.length + 1) s.size
    rw [hdt, List.take_of_length_le (by omega)] at hx
    have hxb : s.extract (a.length + 1) s.size = ⟨t.toArray⟩ := ba_eq.2 hx
    have hstep : ∀ k, tithebarnref13_Parse.l0 (k + 1) s (a.length : Int) (-1) = if t = [] then some (([] : List Int), (⟨#[]⟩ : ByteArray), 130) else ((tithebarnref13_tag.f k ⟨t.toArray⟩).bind fun t103 => (if t103 = true then (tithebarnref13_Parse.j1 k s (a.length : Int) ⟨t.toArray⟩) else (some (([] : List Int), (⟨#[]⟩ : ByteArray), 130)))) := by
      intro k
      simp only [tithebarnref13_Parse.l0]
      rw [if_neg (by omega), if_pos (by omega), wrap_id (by omega) (by omega), if_pos (by omega), if_pos (by omega)]
      have e : ((a.length : Int) + 1).toNat = a.length + 1 := by omega
      rw [e, hxb, ByteArray.toList_eq]
    by_cases ht : t = []
    · rw [triple_bad s a t true hc (by rw [ht]; rfl)]
      refine Ev.step (f := fun _ => some (([] : List Int), (⟨#[]⟩ : ByteArray), 130)) (fun k => ?_) (Ev.now _)
      rw [hstep, if_pos ht]
    · have htg := tag_ev (⟨t.toArray⟩ : ByteArray) (by simp [ByteArray.size]; omega)
      refine Ev.step (fun k => by rw [hstep, if_neg ht]) (Ev.bind htg ?_)
      show Ev (fun n => if tagB t = true then _ else _) _
      by_cases hg : tagB t = true
      · refine Ev.ite_pos hg (hj _ rfl (by rw [hg]; cases t with | nil => exact absurd rfl ht | cons x r => simp) (by omega) hat)
      · refine Ev.ite_neg hg ?_
        rw [triple_bad s a t true hc (by simp [hg])]
        exact Ev.now _
  | false =>
    have ht := hb.2 rfl
    subst ht
    have hla : s.data.toList = a := by simpa using hb.1
    refine Ev.step (f := fun k => tithebarnref13_Parse.j1 k s (a.length : Int) ⟨#[]⟩) (fun k => ?_) (hj ⟨#[]⟩ rfl (by decide) (by rw [← hla, hL]; exact Nat.le_refl _) (by rw [hla, List.take_length]))
    have : a.length = s.size := by rw [← hla, hL]
    simp only [tithebarnref13_Parse.l0]
    rw [if_neg (by omega), if_neg (by omega)]
theorem parse_l0 (s : ByteArray) (hs : s.size ≤ 500) : ∀ (i : Nat), i ≤ s.size → Ev (fun k => tithebarnref13_Parse.l0 k s ((i + (cutOn 45 (s.data.toList.drop i)).1.length : Nat) : Int) ((i : Int) - 1)) (tripleV s) := by
  have hL : s.data.toList.length = s.size := (Lib.size_eq s).symm
  intro i
  induction i with
  | zero =>
    intro _
    have := parse_end s hs
    simpa using this
  | succ i ih =>
    intro hi
    have hil : i < s.data.toList.length := by omega
    have hb := bt_nat s i hil
    have ih := ih (by omega)
    rw [List.drop_eq_getElem_cons hil] at ih
    have e1 : ((i + 1 : Nat) : Int) - 1 = (i : Int) := by omega
    rw [e1]
    by_cases hc : s.data.toList[i]'hil = 45
    · rw [hc, cutOn, if_pos rfl] at ih
      refine Ev.step (fun k => ?_) ih
      simp only [tithebarnref13_Parse.l0]
      rw [if_pos (by omega), if_pos (by omega), if_pos (by omega), hb, hc, if_pos (show ((UInt8.toNat 45 : Nat) : Int) = 45 from rfl), wrap_id (by omega) (by omega)]
      simp
    · rw [cutOn, if_neg hc] at ih
      refine Ev.step (fun k => ?_) ih
      have hne : ¬ ((s.data.toList[i]'hil).toNat : Int) = 45 := by
        intro h
        apply hc
        have e2 : (45 : UInt8).toNat = 45 := rfl
        exact UInt8.toNat_inj.1 (by omega)
      simp only [tithebarnref13_Parse.l0]
      rw [if_pos (by omega), if_pos (by omega), if_pos (by omega), hb, if_neg hne, wrap_id (by omega) (by omega)]
      congr 1
      simp only [List.length_cons]
      omega
theorem parse_ev (s : ByteArray) (hs : s.size ≤ 500) : Ev (fun k => tithebarnref13_Parse.f k s) (tripleV s) := by
  have hL : s.data.toList.length = s.size := (Lib.size_eq s).symm
  have h := parse_l0 s hs s.size (Nat.le_refl _)
  rw [List.drop_eq_nil_of_le (by omega)] at h
  refine Ev.congr (fun k => ?_) h
  unfold tithebarnref13_Parse.f
  rw [wrap_id (by omega) (by omega)]
  rfl
theorem parse_prog (s : ByteArray) (hs : s.size ≤ 1000000) : version_Parse.f s = some (tripleV s) := by
  unfold version_Parse.f
  rw [if_pos (by omega)]
  rfl
theorem nums_len (s : ByteArray) : (numsOf (parseV s.data.toList)).length ≤ 8 ∧ (tagOf (parseV s.data.toList)).length ≤ 16 := by
  cases h : parseV s.data.toList with
  | none => simp [numsOf, tagOf]
  | some x =>
    have := (parseV_some (ns := x.1) (t := x.2) h).1
    unfold okV tagB at this
    simp at this
    simp only [numsOf, tagOf]
    omega
end Go.Proofs.YtnbmdecehlljcaaGreatDoor
namespace Go.Proofs.YtnbmdecehlljcaaGreatDoor
open Go.RowKit Go.Lib Go.Proofs.YtnbmdecehlljcaaGreatDoorW.PrintWords Go.Proofs.YtnbmdecehlljcaaGreatDoorW.PrintLast Go.Proofs.YtnbmdecehlljcaaGreatDoorW.PrintMore PVer
set_option linter.unusedVariables false
set_option linter.unusedSimpArgs false
theorem bless : ∀ s t : List UInt8, s ≠ t → cmpL (bytesI s) (bytesI t) = if Op.bytesLess s t = true then -1 else 1
  | [], [], h => absurd rfl h
  | [], b :: t, _ => by simp [bytesI, cmpL, Op.bytesLess]
  | a :: s, [], _ => by simp [bytesI, cmpL, Op.bytesLess]
  | a :: s, b :: t, h => by
    have hab : (a.toNat : Int) < (b.toNat : Int) ↔ a < b := by rw [UInt8.lt_iff_toNat_lt]; omega
    have hba : (b.toNat : Int) < (a.toNat : Int) ↔ b < a := by rw [UInt8.lt_iff_toNat_lt]; omega
    simp only [bytesI, List.map_cons, cmpL, Op.bytesLess]
    by_cases h1 : a < b
    · rw [if_pos (hab.2 h1)]
      simp [h1]
    · rw [if_neg (fun hh => h1 (hab.1 hh))]
      by_cases h2 : b < a
      · rw [if_pos (hba.2 h2)]
        have hne : (a == b) = false := by
          rw [beq_eq_false_iff_ne]
          intro e
          rw [e] at h2
          exact absurd h2 (UInt8.lt_irrefl _)
        simp [h1, hne]
      · rw [if_neg (fun hh => h2 (hba.1 hh))]
        have e : a = b := by
          apply UInt8.toNat_inj.1
          have h1' : ¬ (a.toNat : Int) < b.toNat := fun hh => h1 (hab.1 hh)
          have h2' : ¬ (b.toNat : Int) < a.toNat := fun hh => h2 (hba.1 hh)
          omega
        subst e
        have ih := bless s t (fun e => h (by rw [e]))
        have : (List.map (fun b => (b.toNat : Int)) s) = bytesI s := rfl
        have : (List.map (fun b => (b.toNat : Int)) t) = bytesI t := rfl
        show cmpL (bytesI s) (bytesI t) = _
        rw [ih]
        simp [h1]
theorem cmpV_eqc (x : Int) (a b : List Int) (s t : List UInt8) : cmpV (x :: a) s (x :: b) t = cmpV a s b t := by
  unfold cmpV
  have : cmpL (x :: a) (x :: b) = cmpL a b := by rw [cmpL, if_neg (by omega), if_neg (by omega)]
  rw [this]
theorem cmpV_of (a b : List Int) (s t : List UInt8) (h : cmpL a b ≠ 0) : cmpV a s b t = cmpL a b := by unfold cmpV; rw [if_pos h]
theorem cmpV_tags (s t : List UInt8) : cmpV [] s [] t = if s = t then 0 else if s = [] then 1 else if t = [] then -1 else if Op.bytesLess s t = true then -1 else 1 := by
  by_cases h : s = t
  · rw [if_pos h]
    exact (cmpV_zero [] s [] t).2 ⟨rfl, h⟩
  · rw [if_neg h]
    have hb := bless s t h
    unfold cmpV noneT cmpI
    rw [if_neg (by simp [cmpL])]
    by_cases h1 : s = []
    · have h2 : t ≠ [] := fun e => h (by rw [h1, e])
      simp [h1, h2]
    · by_cases h2 : t = []
      · simp [h1, h2]
      · simp [h1, h2, hb]
theorem fin_f (a b : List Int) (s t : ByteArray) (i : Nat) (h : i = a.length ∧ i ≤ b.length ∨ i = b.length ∧ i ≤ a.length) :
    (if (a.length : Int) < (b.length : Int) then (some (-1) : Option Int) else (if (a.length : Int) > (b.length : Int) then (some 1) else (if s.toList = t.toList then (some 0) else (if s.toList = ([] : List UInt8) then (some 1) else (if t.toList = ([] : List UInt8) then (some (-1)) else (if (Op.bytesLess s.toList t.toList) = true then (some (-1)) else (some 1))))))) = some (cmpV (a.drop i) s.data.toList (b.drop i) t.data.toList) := by
  by_cases c1 : a.length < b.length
  · rw [if_pos (by omega)]
    have ha : a.drop i = [] := List.drop_eq_nil_of_le (by omega)
    have hb : i < b.length := by omega
    rw [ha, List.drop_eq_getElem_cons hb, cmpV_of _ _ _ _ (by simp [cmpL])]
    rfl
  · by_cases c2 : a.length > b.length
    · rw [if_neg (by omega), if_pos (by omega)]
      have hb : b.drop i = [] := List.drop_eq_nil_of_le (by omega)
      have ha : i < a.length := by omega
      rw [hb, List.drop_eq_getElem_cons ha, cmpV_of _ _ _ _ (by simp [cmpL])]
      rfl
    · rw [if_neg (by omega), if_neg (by omega)]
      have ha : a.drop i = [] := List.drop_eq_nil_of_le (by omega)
      have hb : b.drop i = [] := List.drop_eq_nil_of_le (by omega)
      rw [ha, hb, cmpV_tags, ByteArray.toList_eq, ByteArray.toList_eq]
      split
      · rfl
      · split
        · rfl
        · split
          · rfl
          · split <;> rfl
theorem refcmp_l0 (a b : List Int) (s t : ByteArray) (hl : a.length ≤ 1000000) : ∀ (d i : Nat), i + d = a.length → i ≤ b.length → Ev (fun k => tithebarnref13_Compare.l0 k (i : Int) a s b t) (cmpV (a.drop i) s.data.toList (b.drop i) t.data.toList) := by
  intro d
  induction d with
  | zero =>
    intro i hi hb
    refine Ev.step (f := fun k => tithebarnref13_Compare.j1 k (i : Int) false a s b t) (fun k => ?_) (Ev.step (f := fun _ => some (cmpV (a.drop i) s.data.toList (b.drop i) t.data.toList)) (fun k => ?_) (Ev.now _))
    · simp only [tithebarnref13_Compare.l0]
      rw [if_neg (by omega)]
    · simp only [tithebarnref13_Compare.j1]
      rw [if_neg (by decide)]
      exact fin_f a b s t i (.inl ⟨by omega, hb⟩)
  | succ d ih =>
    intro i hi hb
    have hia : i < a.length := by omega
    refine Ev.step (f := fun k => tithebarnref13_Compare.j1 k (i : Int) (decide ((i : Int) < (b.length : Int))) a s b t) (fun k => ?_) ?_
    · simp only [tithebarnref13_Compare.l0]
      rw [if_pos (by omega)]
    · by_cases hib : i < b.length
      · rw [decide_eq_true (by omega)]
        have e1 : rd a (i : Int) = a[i] := by rw [rd_nat]; simp [hia]
        have e2 : rd b (i : Int) = b[i] := by rw [rd_nat]; simp [hib]
        rw [List.drop_eq_getElem_cons hia, List.drop_eq_getElem_cons hib]
        by_cases c1 : a[i] < b[i]
        · rw [cmpV_of _ _ _ _ (by rw [cmpL, if_pos c1]; decide), cmpL, if_pos c1]
          refine Ev.step (f := fun _ => some (-1)) (fun k => ?_) (Ev.now _)
          simp only [tithebarnref13_Compare.j1]
          rw [if_pos trivial, if_pos (by omega), if_pos (by omega), if_pos (by omega), e1, e2, if_pos c1]
        · by_cases c2 : b[i] < a[i]
          · rw [cmpV_of _ _ _ _ (by rw [cmpL, if_neg c1, if_pos c2]; decide), cmpL, if_neg c1, if_pos c2]
            refine Ev.step (f := fun _ => some 1) (fun k => ?_) (Ev.now _)
            simp only [tithebarnref13_Compare.j1]
            rw [if_pos trivial, if_pos (by omega), if_pos (by omega), if_pos (by omega), e1, e2, if_neg c1, if_pos c2]
          · have e : a[i] = b[i] := by omega
            rw [e, cmpV_eqc]
            refine Ev.step (fun k => ?_) (ih (i + 1) (by omega) (by omega))
            simp only [tithebarnref13_Compare.j1]
            rw [if_pos trivial, if_pos (by omega), if_pos (by omega), if_pos (by omega), e1, e2, if_neg c1, if_neg (by omega), wrap_id (by omega) (by omega)]
            rfl
      · rw [decide_eq_false (by omega)]
        refine Ev.step (f := fun _ => some (cmpV (a.drop i) s.data.toList (b.drop i) t.data.toList)) (fun k => ?_) (Ev.now _)
        simp only [tithebarnref13_Compare.j1]
        rw [if_neg (by decide)]
        exact fin_f a b s t i (.inr ⟨by omega, by omega⟩)
theorem refcmp_ev (a b : List Int) (s t : ByteArray) (hl : a.length ≤ 1000000) : Ev (fun k => tithebarnref13_Compare.f k a s b t) (cmpV a s.data.toList b t.data.toList) := by
  have := refcmp_l0 a b s t hl a.length 0 (by omega) (by omega)
  rw [List.drop_zero, List.drop_zero] at this
  exact this
def textsV (s t : ByteArray) : Int × Bool := if errOf (parseV s.data.toList) = 0 then (if errOf (parseV t.data.toList) = 0 then (cfT s t, true) else (0, false)) else (0, false)
theorem texts_prog (s t : ByteArray) (hs : s.size ≤ 1000000) (ht : t.size ≤ 1000000) : version_Texts.f s t = some (textsV s t) := by
  unfold version_Texts.f
  rw [parse_prog s hs, Option.bind_some, parse_prog t ht, Option.bind_some]
  unfold textsV tripleV
  have h1 := nums_len s
  have h2 := nums_len t
  have hc : version_Compare.f (numsOf (parseV s.data.toList)) ⟨(tagOf (parseV s.data.toList)).toArray⟩ (numsOf (parseV t.data.toList)) ⟨(tagOf (parseV t.data.toList)).toArray⟩ = some (cfT s t) := compare_f _ _ _ _ (by omega) (by omega) (by simp [ByteArray.size]; omega) (by simp [ByteArray.size]; omega)
  simp only
  rw [hc]
  split
  · split <;> rfl
  · rfl
theorem texts_ev (s t : ByteArray) (hs : s.size ≤ 500) (ht : t.size ≤ 500) : Ev (fun k => tithebarnref13_Texts.f k s t) (textsV s t) := by
  unfold tithebarnref13_Texts.f
  refine Ev.bind (parse_ev s hs) (Ev.bind (parse_ev t ht) ?_)
  have h1 := nums_len s
  unfold textsV
  by_cases c1 : errOf (parseV s.data.toList) = 0
  · rw [if_pos c1]
    refine Ev.ite_pos c1 ?_
    by_cases c2 : errOf (parseV t.data.toList) = 0
    · rw [if_pos c2]
      refine Ev.ite_pos c2 (Ev.bind (refcmp_ev _ _ _ _ (by show (numsOf _).length ≤ _; omega)) ?_)
      exact Ev.const rfl
    · rw [if_neg c2]
      exact Ev.ite_neg c2 (Ev.now _)
  · rw [if_neg c1]
    exact Ev.ite_neg c1 (Ev.now _)
end Go.Proofs.YtnbmdecehlljcaaGreatDoor
namespace Go.Proofs.YtnbmdecehlljcaaGreatDoor
open Go.RowKit Go.Lib Go.Proofs.YtnbmdecehlljcaaGreatDoorW.PrintWords Go.Proofs.YtnbmdecehlljcaaGreatDoorW.PrintLast Go.Proofs.YtnbmdecehlljcaaGreatDoorW.PrintMore PVer
set_option linter.unusedVariables false
set_option linter.unusedSimpArgs false
theorem true_VersionParse : ∀ (a0 : ByteArray), Ev (fun k => PVer.tithebarnlaw13_VersionParse.f k a0) true := by
  intro s
  unfold tithebarnlaw13_VersionParse.f
  by_cases h : (s.size : Int) > 500
  · exact Ev.ite_pos h (Ev.const rfl)
  · refine Ev.ite_neg h (Ev.obind (parse_prog s (by omega)) (Ev.bind (parse_ev s (by omega)) ?_))
    refine Ev.ite_pos rfl (Ev.bind (same_ev _ _ (by have := (nums_len s).1; show (numsOf _).length ≤ _; omega)) ?_)
    refine Ev.ite_pos (by simp) (Ev.ite_pos rfl (Ev.const rfl))
theorem pure_VersionParse : ∀ (a0 : ByteArray), a0.size ≤ maxLen → ∃ k, PVer.tithebarnlaw13_VersionParse.f k a0 = some true := fun s _ => Ev.rounds (true_VersionParse s)
end Go.Proofs.YtnbmdecehlljcaaGreatDoor
namespace Go.Proofs.YtnbmdecehlljcaaGreatDoor
open Go.RowKit Go.Lib Go.Proofs.YtnbmdecehlljcaaGreatDoorW.PrintWords Go.Proofs.YtnbmdecehlljcaaGreatDoorW.PrintLast Go.Proofs.YtnbmdecehlljcaaGreatDoorW.PrintMore PVer
set_option linter.unusedVariables false
set_option linter.unusedSimpArgs false
theorem print_prog (l : List Int) (t : ByteArray) (hl : l.length ≤ 1000000) (ht : t.size ≤ 1000000) : version_Print.f l t = some (if okV l t.data.toList then (⟨(printV l t.data.toList).toArray⟩, 0) else (⟨#[]⟩, 130)) := by
  unfold version_Print.f
  rw [if_pos ⟨hl, ht⟩]
theorem printV_len (l : List Int) (t : List UInt8) (h : okV l t = true) : (printV l t).length ≤ 97 := by
  unfold okV tagB at h
  simp only [Bool.and_eq_true, decide_eq_true_eq] at h
  have h1 := joinOn_len 46 (l.map fun n => decDigits n.toNat) (fun p hp => by
    obtain ⟨n, hn, rfl⟩ := List.mem_map.1 hp
    have := List.all_eq_true.1 h.1.2 n hn
    simp only [Bool.and_eq_true, decide_eq_true_eq] at this
    exact dec_len _ (by omega))
  rw [List.length_map] at h1
  unfold printV
  rw [List.length_append]
  split
  · simp; omega
  · simp only [List.length_cons]; omega
theorem back_j1 (l : List Int) (t : ByteArray) (hl : l.length ≤ 100) (ht : t.size ≤ 100) : Ev (fun k => tithebarnlaw13_VersionBack.j1 k l t) true := by
  by_cases hok : okV l t.data.toList = true
  · have hpl := printV_len l t.data.toList hok
    have hpp := parseV_print hok
    have hsz : (⟨(printV l t.data.toList).toArray⟩ : ByteArray).size ≤ 1000000 := by simp [ByteArray.size]; omega
    have htr : tripleV ⟨(printV l t.data.toList).toArray⟩ = (l, t, 0) := by
      unfold tripleV
      show (numsOf (parseV (printV l t.data.toList)), _, errOf (parseV (printV l t.data.toList))) = _
      rw [show (⟨(printV l t.data.toList).toArray⟩ : ByteArray).data.toList = printV l t.data.toList from rfl, hpp]
      have : (⟨t.data.toList.toArray⟩ : ByteArray) = t := ba_eq.2 rfl
      simp only [numsOf, tagOf, errOf, this]
    have hc0 : cmpV l t.data.toList l t.data.toList = 0 := (cmpV_zero _ _ _ _).2 ⟨rfl, rfl⟩
    refine Ev.step (f := fun k => (tithebarnkit_SameInts.f k l l).bind fun t253 => (if t253 = true then (if t.toList = t.toList then (some true) else (some false)) else (some false))) (fun k => ?_) (Ev.bind (same_ev l l (by omega)) (Ev.ite_pos (by simp) (Ev.ite_pos rfl (Ev.now _))))
    simp only [tithebarnlaw13_VersionBack.j1]
    rw [print_prog l t (by omega) (by omega), if_pos hok, Option.bind_some]
    simp only
    rw [if_pos trivial, parse_prog _ hsz, htr, Option.bind_some]
    simp only
    rw [if_pos trivial, compare_f l t l t hl hl ht ht, Option.bind_some, hc0, if_pos rfl]
    rfl
  · refine Ev.step (f := fun _ => some true) (fun k => ?_) (Ev.now _)
    simp only [tithebarnlaw13_VersionBack.j1]
    rw [print_prog l t (by omega) (by omega), if_neg hok, Option.bind_some]
    simp only
    rw [if_neg (by decide), if_pos (by rw [ByteArray.toList_eq])]
    rfl
theorem back_j0 (s : ByteArray) (f : Bool) (l : List Int) (t : ByteArray) (hs : s.size ≤ 500) (hl : l.length ≤ 100) (hf : f = decide ((t.size : Int) > 100)) : Ev (fun k => tithebarnlaw13_VersionBack.j0 k s f l t) true := by
  by_cases ht : t.size ≤ 100
  · have : f = false := by rw [hf]; simp; omega
    subst this
    have hj := back_j1 l t hl ht
    cases hp : parseV s.data.toList with
    | none =>
      refine Ev.step (fun k => ?_) hj
      simp only [tithebarnlaw13_VersionBack.j0]
      rw [if_neg (by decide), parse_prog s (by omega), Option.bind_some]
      have : errOf (parseV s.data.toList) = 130 := by rw [hp]; rfl
      unfold tripleV
      simp only
      rw [if_neg (by rw [this]; decide)]
    | some x =>
      have hps := parseV_some (ns := x.1) (t := x.2) hp
      have hok := hps.1
      have hn := nums_len s
      have htr : tripleV s = (x.1, ⟨x.2.toArray⟩, 0) := by unfold tripleV; rw [hp]; rfl
      rw [hp] at hn
      simp only [numsOf, tagOf] at hn
      refine Ev.step (fun k => ?_) hj
      simp only [tithebarnlaw13_VersionBack.j0]
      rw [if_neg (by decide), parse_prog s (by omega), htr, Option.bind_some]
      simp only
      rw [if_pos trivial, print_prog _ _ (by omega) (by simp [ByteArray.size]; omega), if_pos (show okV x.1 (⟨x.2.toArray⟩ : ByteArray).data.toList = true from hok), Option.bind_some]
      simp only
      rw [if_pos trivial, if_pos (by rw [ByteArray.toList_eq, ByteArray.toList_eq]; exact hps.2)]
  · have : f = true := by rw [hf]; simp; omega
    subst this
    refine Ev.step (f := fun _ => some true) (fun k => ?_) (Ev.now _)
    simp only [tithebarnlaw13_VersionBack.j0]
    rfl
theorem back_true (s : ByteArray) (l : List Int) (t : ByteArray) : Ev (fun k => tithebarnlaw13_VersionBack.j0 k s true l t) true := by
  refine Ev.step (f := fun _ => some true) (fun k => ?_) (Ev.now _)
  simp only [tithebarnlaw13_VersionBack.j0]
  rfl
theorem true_VersionBack : ∀ (a0 : ByteArray) (l1_0 : (List Int)) (a1_1 : ByteArray), Ev (fun k => PVer.tithebarnlaw13_VersionBack.f k a0 l1_0 a1_1) true := by
  intro s l t
  unfold tithebarnlaw13_VersionBack.f
  by_cases h1 : (s.size : Int) > 500
  · exact Ev.ite_pos h1 (back_true s l t)
  · refine Ev.ite_neg h1 ?_
    by_cases h2 : (l.length : Int) > 100
    · exact Ev.ite_pos h2 (back_true s l t)
    · exact Ev.ite_neg h2 (back_j0 s _ l t (by omega) (by omega) rfl)
theorem pure_VersionBack : ∀ (a0 : ByteArray) (l1_0 : (List Int)) (a1_1 : ByteArray), a0.size ≤ maxLen → (l1_0.length ≤ maxLen ∧ ∀ y0 ∈ l1_0, (Lit.int .i64 y0).wf = true) → a1_1.size ≤ maxLen → ∃ k, PVer.tithebarnlaw13_VersionBack.f k a0 l1_0 a1_1 = some true := fun s l t _ _ _ => Ev.rounds (true_VersionBack s l t)
end Go.Proofs.YtnbmdecehlljcaaGreatDoor
namespace Go.Proofs.YtnbmdecehlljcaaGreatDoor
open Go.RowKit Go.Lib Go.Proofs.YtnbmdecehlljcaaGreatDoorW.PrintWords Go.Proofs.YtnbmdecehlljcaaGreatDoorW.PrintLast Go.Proofs.YtnbmdecehlljcaaGreatDoorW.PrintMore PVer
set_option linter.unusedVariables false
set_option linter.unusedSimpArgs false
theorem compare_j0t (a : List Int) (s : ByteArray) (b : List Int) (t x y : ByteArray) : Ev (fun k => tithebarnlaw13_VersionCompare.j0 k x y true a s b t) true := by
  refine Ev.step (f := fun _ => some true) (fun k => ?_) (Ev.now _)
  simp only [tithebarnlaw13_VersionCompare.j0]
  rfl
theorem compare_j0f (a : List Int) (s : ByteArray) (b : List Int) (t x y : ByteArray) (h1 : a.length ≤ 100) (h2 : b.length ≤ 100) (h3 : s.size ≤ 100) (h4 : t.size ≤ 100) (h5 : x.size ≤ 100) (h6 : y.size ≤ 100) : Ev (fun k => tithebarnlaw13_VersionCompare.j0 k x y false a s b t) true := by
  refine Ev.step (f := fun k => (tithebarnref13_Texts.f k x y).bind fun bt165 => ((tithebarnref13_Compare.f k a s b t).bind fun t176 => (if cmpV a s.data.toList b t.data.toList = t176 then (if (textsV x y).1 = bt165.1 then (if ((textsV x y).2 == bt165.2) = true then (some true) else (some false)) else (some false)) else (some false)))) (fun k => ?_) (Ev.bind (texts_ev x y (by omega) (by omega)) (Ev.bind (refcmp_ev a b s t (by omega)) (Ev.const (by rw [if_pos rfl, if_pos rfl, if_pos (by simp)]))))
  simp only [tithebarnlaw13_VersionCompare.j0]
  rw [if_neg (by decide), texts_prog x y (by omega) (by omega), Option.bind_some, compare_f a s b t h1 h2 h3 h4]
  rfl
theorem true_VersionCompare : ∀ (l0_0 : (List Int)) (a0_1 : ByteArray) (l1_0 : (List Int)) (a1_1 : ByteArray) (a2 : ByteArray) (a3 : ByteArray), Ev (fun k => PVer.tithebarnlaw13_VersionCompare.f k l0_0 a0_1 l1_0 a1_1 a2 a3) true := by
  intro a s b t x y
  have hT := compare_j0t a s b t x y
  unfold tithebarnlaw13_VersionCompare.f
  by_cases h1 : (a.length : Int) > 100
  · exact Ev.ite_pos h1 hT
  · refine Ev.ite_neg h1 ?_
    by_cases h2 : (b.length : Int) > 100
    · exact Ev.ite_pos h2 hT
    · refine Ev.ite_neg h2 ?_
      by_cases h3 : (s.size : Int) > 100
      · exact Ev.ite_pos h3 hT
      · refine Ev.ite_neg h3 ?_
        by_cases h4 : (t.size : Int) > 100
        · exact Ev.ite_pos h4 hT
        · refine Ev.ite_neg h4 ?_
          by_cases h5 : (x.size : Int) > 100
          · exact Ev.ite_pos h5 hT
          · refine Ev.ite_neg h5 ?_
            by_cases h6 : (y.size : Int) > 100
            · rw [decide_eq_true h6]; exact hT
            · rw [decide_eq_false h6]
              exact compare_j0f a s b t x y (by omega) (by omega) (by omega) (by omega) (by omega) (by omega)
theorem pure_VersionCompare : ∀ (l0_0 : (List Int)) (a0_1 : ByteArray) (l1_0 : (List Int)) (a1_1 : ByteArray) (a2 : ByteArray) (a3 : ByteArray), (l0_0.length ≤ maxLen ∧ ∀ y0 ∈ l0_0, (Lit.int .i64 y0).wf = true) → a0_1.size ≤ maxLen → (l1_0.length ≤ maxLen ∧ ∀ y0 ∈ l1_0, (Lit.int .i64 y0).wf = true) → a1_1.size ≤ maxLen → a2.size ≤ maxLen → a3.size ≤ maxLen → ∃ k, PVer.tithebarnlaw13_VersionCompare.f k l0_0 a0_1 l1_0 a1_1 a2 a3 = some true := fun a s b t x y _ _ _ _ _ _ => Ev.rounds (true_VersionCompare a s b t x y)
end Go.Proofs.YtnbmdecehlljcaaGreatDoor
namespace Go.Proofs.YtnbmdecehlljcaaGreatDoor
open Go.RowKit Go.Lib Go.Proofs.YtnbmdecehlljcaaGreatDoorW.PrintWords Go.Proofs.YtnbmdecehlljcaaGreatDoorW.PrintLast Go.Proofs.YtnbmdecehlljcaaGreatDoorW.PrintMore PVer
set_option linter.unusedVariables false
set_option linter.unusedSimpArgs false
/-! ### Sort -/
theorem sameS_l0 (a b : List ByteArray) (he : a.length = b.length) (hl : a.length ≤ 1000000000) : ∀ (d i : Nat), i + d = a.length → (∀ q, q < i → a.getD q ByteArray.empty = b.getD q ByteArray.empty) → Ev (fun k => tithebarnkit_SameTexts.l0 k a b i) (decide (a = b)) := by
  intro d
  induction d with
  | zero =>
    intro i hi hq
    have : a = b := List.ext_getElem he (fun q q1 q2 => by have := hq q (by omega); simpa [q1, q2] using this)
    rw [decide_eq_true this]
    refine Ev.step (f := fun _ => some true) (fun k => ?_) (Ev.now _)
    simp only [tithebarnkit_SameTexts.l0]
    rw [if_neg (by omega)]
  | succ d ih =>
    intro i hi hq
    by_cases e : a.getD i ByteArray.empty = b.getD i ByteArray.empty
    · refine Ev.step (fun k => ?_) (ih (i + 1) (by omega) (fun q hq' => by
        by_cases e' : q = i
        · rw [e']; exact e
        · exact hq q (by omega)))
      simp only [tithebarnkit_SameTexts.l0]
      rw [if_pos (by omega), if_pos (by omega), if_pos (by omega), rdS_nat, rdS_nat, if_pos (by rw [e]), wrap_id (by omega) (by omega)]
      rfl
    · rw [decide_eq_false (fun h => e (by rw [h]))]
      refine Ev.step (f := fun _ => some false) (fun k => ?_) (Ev.now _)
      simp only [tithebarnkit_SameTexts.l0]
      rw [if_pos (by omega), if_pos (by omega), if_pos (by omega), rdS_nat, rdS_nat, if_neg (by rw [ByteArray.toList_eq, ByteArray.toList_eq]; exact fun h => e (ba_eq.2 h))]
theorem sameS_ev (a b : List ByteArray) (hl : a.length ≤ 1000000000) : Ev (fun k => tithebarnkit_SameTexts.f k a b) (decide (a = b)) := by
  by_cases h : a.length = b.length
  · refine Ev.congr (f := fun k => tithebarnkit_SameTexts.l0 k a b ((0 : Nat) : Int)) (fun k => by unfold tithebarnkit_SameTexts.f; rw [if_pos (by omega)]; rfl) (sameS_l0 a b h hl a.length 0 (by omega) (fun q hq => absurd hq (Nat.not_lt_zero _)))
  · rw [decide_eq_false (fun e => h (by rw [e]))]
    exact Ev.congr (f := fun _ => some false) (fun k => by unfold tithebarnkit_SameTexts.f; rw [if_neg (by omega)]) (Ev.now _)
def bubL : List ByteArray → ByteArray → List ByteArray → List ByteArray
  | [], x, suf => x :: suf
  | y :: pre, x, suf => if cfT x y < 0 then bubL pre x (y :: suf) else bubL pre y (x :: suf)
theorem bub_perm : ∀ (pre : List ByteArray) (x : ByteArray) (suf : List ByteArray), (bubL pre x suf).Perm (pre.reverse ++ x :: suf)
  | [], x, suf => by simp [bubL]
  | y :: pre, x, suf => by
    unfold bubL
    split
    · refine (bub_perm pre x (y :: suf)).trans ?_
      rw [List.reverse_cons, List.append_assoc]
      exact List.Perm.append_left _ (List.Perm.swap y x suf)
    · refine (bub_perm pre y (x :: suf)).trans ?_
      rw [List.reverse_cons, List.append_assoc]
      exact List.Perm.refl _
theorem le_trans_cf {a b c : ByteArray} (h1 : cfT a b ≤ 0) (h2 : cfT b c ≤ 0) : cfT a c ≤ 0 := (cmpV_trans _ _ _ _ _ _).1 h1 h2
theorem bub_sorted : ∀ (pre : List ByteArray) (x : ByteArray) (suf : List ByteArray), (pre.reverse ++ suf).Pairwise (fun a b => cfT a b ≤ 0) → (∀ q ∈ suf, cfT x q ≤ 0) → (bubL pre x suf).Pairwise (fun a b => cfT a b ≤ 0)
  | [], x, suf, h1, h2 => by
    unfold bubL
    exact List.pairwise_cons.2 ⟨h2, by simpa using h1⟩
  | y :: pre, x, suf, h1, h2 => by
    rw [List.reverse_cons, List.append_assoc] at h1
    have h1' : (pre.reverse ++ y :: suf).Pairwise (fun a b => cfT a b ≤ 0) := h1
    unfold bubL
    split
    · rename_i hc
      exact bub_sorted pre x (y :: suf) h1' (fun q hq => by
        rcases List.mem_cons.1 hq with rfl | hq
        · omega
        · exact h2 q hq)
    · rename_i hc
      have hyx : cfT y x ≤ 0 := by have := cfT_neg x y; omega
      obtain ⟨p1, p2, p3⟩ := List.pairwise_append.1 h1'
      obtain ⟨p4, p5⟩ := List.pairwise_cons.1 p2
      refine bub_sorted pre y (x :: suf) (List.pairwise_append.2 ⟨p1, List.pairwise_cons.2 ⟨h2, p5⟩, fun a ha b hb => ?_⟩) (fun q hq => ?_)
      · rcases List.mem_cons.1 hb with rfl | hb
        · exact le_trans_cf (p3 a ha y (List.mem_cons_self ..)) hyx
        · exact p3 a ha b (List.mem_cons_of_mem _ hb)
      · rcases List.mem_cons.1 hq with rfl | hq
        · exact hyx
        · exact p4 q hq
theorem textsV_ok {s t : ByteArray} (hs : okT s = true) (ht : okT t = true) : textsV s t = (cfT s t, true) := by
  obtain ⟨x, hx⟩ := Option.isSome_iff_exists.1 hs
  obtain ⟨y, hy⟩ := Option.isSome_iff_exists.1 ht
  unfold textsV
  rw [if_pos (by rw [hx]; rfl), if_pos (by rw [hy]; rfl)]
theorem sort_l1 (l : List ByteArray) (i : Nat) (R : List ByteArray × Int) : ∀ (pre : List ByteArray) (x : ByteArray) (suf : List ByteArray), pre.length ≤ 1000 → (∀ s ∈ pre.reverse ++ x :: suf, okT s = true ∧ s.size ≤ 60) →
    (Ev (fun k => tithebarnref13_Sort.l0 k l (bubL pre x suf) (wrap64 ((i : Int) + 1))) R) → Ev (fun k => tithebarnref13_Sort.l1 k l (pre.reverse ++ x :: suf) (i : Int) (pre.length : Int)) R
  | [], x, suf, hp, hok, hR => by
    refine Ev.step (fun k => ?_) hR
    simp only [tithebarnref13_Sort.l1]
    rw [if_neg (by simp)]
    rfl
  | y :: pre, x, suf, hp, hok, hR => by
    have hlist : (y :: pre).reverse ++ x :: suf = pre.reverse ++ y :: x :: suf := by rw [List.reverse_cons, List.append_assoc]; rfl
    rw [hlist] at hok ⊢
    have hlen : (pre.reverse ++ y :: x :: suf).length = pre.length + 2 + suf.length := by simp; omega
    have gx : (pre.reverse ++ y :: x :: suf).getD (pre.length + 1) ByteArray.empty = x := by
      rw [List.getD_eq_getElem?_getD, List.getElem?_append_right (by simp)]
      simp
    have gy : (pre.reverse ++ y :: x :: suf).getD pre.length ByteArray.empty = y := by
      rw [List.getD_eq_getElem?_getD, List.getElem?_append_right (by simp)]
      simp
    have hset : ((pre.reverse ++ y :: x :: suf).set (pre.length + 1) y).set pre.length x = pre.reverse ++ x :: y :: suf := by
      rw [List.set_append_right _ _ (by simp), List.set_append_right _ _ (by simp)]
      simp
    have kx := hok x (by simp)
    have ky := hok y (by simp)
    simp only [List.length_cons] at hp
    have ew : wrap64 (((pre.length + 1 : Nat) : Int) - 1) = (pre.length : Int) := by rw [wrap_id (by omega) (by omega)]; omega
    have et := textsV_ok kx.1 ky.1
    refine Ev.step (f := fun k => (tithebarnref13_Texts.f k x y).bind fun bt207 => (if bt207.1 < 0 then (tithebarnref13_Sort.l1 k l (pre.reverse ++ x :: y :: suf) (i : Int) (pre.length : Int)) else (tithebarnref13_Sort.l1 k l (pre.reverse ++ y :: x :: suf) (i : Int) (pre.length : Int)))) (fun k => ?_) (Ev.bind (texts_ev x y (by omega) (by omega)) ?_)
    · simp only [tithebarnref13_Sort.l1, List.length_cons]
      rw [if_pos (by omega), if_pos (by omega), if_pos (by omega), ew, if_pos (by omega), if_pos (by omega), rdS_nat, rdS_nat, gx, gy]
      have e1 : (((pre.length + 1 : Nat) : Int)).toNat = pre.length + 1 := by omega
      have e2 : ((pre.length : Nat) : Int).toNat = pre.length := by omega
      rw [e1, e2, hset]
    · rw [et]
      unfold bubL at hR
      by_cases hc : cfT x y < 0
      · rw [if_pos hc] at hR
        exact Ev.ite_pos hc (sort_l1 l i R pre x (y :: suf) (by omega) (fun s hs => hok s (by simp only [List.mem_append, List.mem_cons] at hs ⊢; rcases hs with h | h | h | h <;> simp [h])) hR)
      · rw [if_neg hc] at hR
        exact Ev.ite_neg hc (sort_l1 l i R pre y (x :: suf) (by omega) hok hR)
theorem sortT_unique (l out : List ByteArray) (hp : out.Perm l) (hs : out.Pairwise (fun a b => cfT a b ≤ 0)) (hok : ∀ s ∈ l, okT s = true) : out = sortT l := by
  have h1 : (sortT l).Perm l := List.mergeSort_perm _ _
  have h2 : (sortT l).Pairwise (fun a b => cfT a b ≤ 0) := by
    have := List.pairwise_mergeSort (le := fun x y => decide (cfT x y ≤ 0)) (fun a b c h1 h2 => by simp only [decide_eq_true_eq] at *; exact le_trans_cf h1 h2) (fun a b => by have := cfT_neg a b; simp only [Bool.or_eq_true, decide_eq_true_eq]; omega) l
    exact this.imp (fun h => by simpa using h)
  refine List.Perm.eq_of_pairwise (le := fun a b => cfT a b ≤ 0) ?_ hs h2 (hp.trans h1.symm)
  intro a b ha hb hab hba
  have := cfT_neg a b
  exact cfT_zero (hok a (hp.mem_iff.1 ha)) (hok b (h1.mem_iff.1 hb)) (by omega)
theorem sort_l0 (l : List ByteArray) (hl : l.length ≤ 60) (hz : ∀ s ∈ l, s.size ≤ 60) : ∀ (d i : Nat) (out : List ByteArray), i + d = l.length → out.Perm (l.take i) → out.Pairwise (fun a b => cfT a b ≤ 0) → (l.take i).all okT = true →
    Ev (fun k => tithebarnref13_Sort.l0 k l out (i : Int)) (if l.all okT then (sortT l, 0) else ([], 130)) := by
  intro d
  induction d with
  | zero =>
    intro i out hi hp hs hok
    rw [List.take_of_length_le (by omega)] at hp hok
    rw [hok, if_pos rfl, ← sortT_unique l out hp hs (fun s h => List.all_eq_true.1 hok s h)]
    refine Ev.step (f := fun _ => some (out, 0)) (fun k => ?_) (Ev.now _)
    simp only [tithebarnref13_Sort.l0]
    rw [if_neg (by omega)]
  | succ d ih =>
    intro i out hi hp hs hok
    have hil : i < l.length := by omega
    have hg : l.getD i ByteArray.empty = l[i] := by simp [hil]
    have hmem : l[i] ∈ l := List.getElem_mem hil
    have htk : l.take (i + 1) = l.take i ++ [l[i]] := take_snoc l i hil
    have hol : out.length = i := by rw [hp.length_eq, List.length_take]; omega
    have hsz := hz _ hmem
    have hcont : ∀ k, tithebarnref13_Sort.l0 (k + 1) l out (i : Int) = (tithebarnref13_Parse.f k l[i]).bind fun bt195 => (if bt195.2.2 = 0 then (tithebarnref13_Sort.l1 k l (out ++ [l[i]]) (i : Int) ((out.reverse).length : Int)) else (some (([] : List ByteArray), bt195.2.2))) := by
      intro k
      simp only [tithebarnref13_Sort.l0]
      rw [if_pos (by omega), if_pos (by omega), rdS_nat, hg]
      congr 1
      funext q
      split
      · rw [if_pos (by omega)]
        simp only [Option.bind_some]
        congr 1
        rw [List.length_append, wrap_id (by simp only [List.length_singleton]; omega) (by simp only [List.length_singleton]; omega)]
        simp
      · rfl
    refine Ev.step hcont (Ev.bind (parse_ev l[i] (by omega)) ?_)
    by_cases hk : okT l[i] = true
    · obtain ⟨x, hx⟩ := Option.isSome_iff_exists.1 hk
      have he : (tripleV l[i]).2.2 = 0 := by unfold tripleV; rw [hx]; rfl
      refine Ev.ite_pos he ?_
      have hbp := bub_perm out.reverse l[i] []
      rw [List.reverse_reverse] at hbp
      have hbs := bub_sorted out.reverse l[i] [] (by rw [List.reverse_reverse, List.append_nil]; exact hs) (by simp)
      have h1 := ih (i + 1) (bubL out.reverse l[i] []) (by omega) (by rw [htk]; exact hbp.trans (List.Perm.append_right _ hp)) hbs (by rw [htk, List.all_append, hok]; simp [hk])
      have h2 := sort_l1 l i (if l.all okT then (sortT l, 0) else ([], 130)) out.reverse l[i] [] (by simp; omega) (fun s hs' => by
        rw [List.reverse_reverse] at hs'
        rcases List.mem_append.1 hs' with h | h
        · have h3 := hp.mem_iff.1 h
          exact ⟨List.all_eq_true.1 hok s h3, hz s (List.mem_of_mem_take h3)⟩
        · rw [List.mem_singleton.1 h]; exact ⟨hk, hsz⟩) (by rw [wrap_id (by omega) (by omega)]; exact h1)
      rw [List.reverse_reverse] at h2
      exact h2
    · have hne : parseV l[i].data.toList = none := by
        unfold okT at hk
        cases h : parseV l[i].data.toList with
        | none => rfl
        | some x => rw [h] at hk; exact absurd rfl hk
      have he : (tripleV l[i]).2.2 = 130 := by unfold tripleV; rw [hne]; rfl
      have hall : l.all okT = false := by
        rw [Bool.eq_false_iff]
        intro h
        exact hk (List.all_eq_true.1 h _ hmem)
      refine Ev.ite_neg (by rw [he]; decide) ?_
      rw [hall, he]
      exact Ev.now _
theorem sort_ev (l : List ByteArray) (hl : l.length ≤ 60) (hz : ∀ s ∈ l, s.size ≤ 60) : Ev (fun k => tithebarnref13_Sort.f k l) (if l.all okT then (sortT l, 0) else ([], 130)) := sort_l0 l hl hz l.length 0 [] (by omega) (by simp) (by simp) (by simp)
theorem sort_mark (l own : List ByteArray) (hl : l.length ≤ 1000) (ho : own = l) : ∀ (d i : Nat) (a : List ByteArray), i + d = a.length → a.length ≤ 1000 → Ev (fun k => tithebarnlaw13_VersionSort.l1 k l own a (i : Int)) true := by
  intro d
  induction d with
  | zero =>
    intro i a hi ha
    refine Ev.step (f := fun k => (tithebarnkit_SameTexts.f k own l).bind fun t231 => (if t231 = true then (some true) else (some false))) (fun k => ?_) (Ev.bind (sameS_ev own l (by rw [ho]; omega)) (Ev.ite_pos (by simpa using ho) (Ev.now _)))
    simp only [tithebarnlaw13_VersionSort.l1]
    rw [if_neg (by omega)]
    rfl
  | succ d ih =>
    intro i a hi ha
    refine Ev.step (fun k => ?_) (ih (i + 1) (a.set i (⟨#[63]⟩ : ByteArray)) (by simp; omega) (by simp; omega))
    simp only [tithebarnlaw13_VersionSort.l1]
    rw [if_pos (by omega), if_pos (by omega), wrap_id (by omega) (by omega)]
    rfl
theorem sort_guard (l : List ByteArray) (hl : l.length ≤ 60) : ∀ (d i : Nat), i + d = l.length → (∀ j, j < i → (l.getD j ByteArray.empty).size ≤ 60) → Ev (fun k => tithebarnlaw13_VersionSort.l0 k l (i : Int)) true := by
  intro d
  induction d with
  | zero =>
    intro i hi hz
    have hz' : ∀ s ∈ l, s.size ≤ 60 := by
      intro s hs
      obtain ⟨j, hj, rfl⟩ := List.getElem_of_mem hs
      have := hz j (by omega)
      simpa [hj] using this
    have hsf : version_Sort.f l = some (if l.all okT then (sortT l, 0) else ([], 130)) := by
      unfold version_Sort.f
      rw [if_pos ⟨by omega, fun s hs => by have := hz' s hs; omega⟩]
    have hlen : (if l.all okT then (sortT l, 0) else (([], 130) : List ByteArray × Int)).1.length ≤ 60 := by
      split
      · unfold sortT; rw [List.length_mergeSort]; exact hl
      · simp
    generalize (if l.all okT then (sortT l, 0) else (([], 130) : List ByteArray × Int)) = r at *
    have hse : Ev (fun k => tithebarnref13_Sort.f k l) r := by
      have h1 := sort_ev l hl hz'
      unfold version_Sort.f at hsf
      rw [if_pos ⟨by omega, fun s hs => by have := hz' s hs; omega⟩] at hsf
      rw [Option.some.inj hsf] at h1
      exact h1
    refine Ev.step (f := fun k => (tithebarnref13_Sort.f k l).bind fun bt225 => (if r.2 = bt225.2 then ((tithebarnkit_SameTexts.f k r.1 bt225.1).bind fun t229 => (tithebarnlaw13_VersionSort.j1 k l l r.1 (!t229))) else (tithebarnlaw13_VersionSort.j1 k l l r.1 true))) (fun k => ?_) (Ev.bind hse (Ev.ite_pos rfl (Ev.bind (sameS_ev _ _ (by omega)) ?_)))
    · simp only [tithebarnlaw13_VersionSort.l0]
      rw [if_neg (by omega), if_pos (by simp; omega)]
      simp only [List.nil_append, Option.bind_some]
      rw [hsf, Option.bind_some]
    · rw [decide_eq_true rfl]
      refine Ev.step (f := fun k => tithebarnlaw13_VersionSort.l1 k l l r.1 ((0 : Nat) : Int)) (fun k => ?_) (sort_mark l l (by omega) rfl r.1.length 0 r.1 (by omega) (by omega))
      simp only [tithebarnlaw13_VersionSort.j1]
      rfl
  | succ d ih =>
    intro i hi hz
    by_cases h : (l.getD i ByteArray.empty).size ≤ 60
    · refine Ev.step (fun k => ?_) (ih (i + 1) (by omega) (fun j hj => by
        by_cases e : j = i
        · rw [e]; exact h
        · exact hz j (by omega)))
      simp only [tithebarnlaw13_VersionSort.l0]
      rw [if_pos (by omega), if_pos (by omega), rdS_nat, if_neg (by omega), wrap_id (by omega) (by omega)]
      rfl
    · refine Ev.step (f := fun _ => some true) (fun k => ?_) (Ev.now _)
      simp only [tithebarnlaw13_VersionSort.l0]
      rw [if_pos (by omega), if_pos (by omega), rdS_nat, if_pos (by omega)]
      rfl
theorem true_VersionSort : ∀ (l0 : (List ByteArray)), Ev (fun k => PVer.tithebarnlaw13_VersionSort.f k l0) true := by
  intro l
  unfold tithebarnlaw13_VersionSort.f
  by_cases h : (l.length : Int) > 60
  · exact Ev.ite_pos h (Ev.const rfl)
  · exact Ev.ite_neg h (sort_guard l (by omega) l.length 0 (by omega) (fun j hj => absurd hj (Nat.not_lt_zero _)))
theorem pure_VersionSort : ∀ (l0 : (List ByteArray)), (l0.length ≤ maxLen ∧ ∀ y0 ∈ l0, y0.size ≤ maxLen) → ∃ k, PVer.tithebarnlaw13_VersionSort.f k l0 = some true := fun l _ => Ev.rounds (true_VersionSort l)
end Go.Proofs.YtnbmdecehlljcaaGreatDoor
namespace Go.Proofs.YtnbmdecehlljcaaGreatDoor
open Go.RowKit Go.Lib Go.Proofs.YtnbmdecehlljcaaGreatDoorW.PrintWords Go.Proofs.YtnbmdecehlljcaaGreatDoorW.PrintLast Go.Proofs.YtnbmdecehlljcaaGreatDoorW.PrintMore PVer
set_option linter.unusedVariables false
set_option linter.unusedSimpArgs false
theorem print_progX (l : List Int) (t : ByteArray) (hl : l.length ≤ 1000000) (ht : t.size ≤ 1000000) : version_Print.f l t = some (if okV l t.data.toList then (⟨(printV l t.data.toList).toArray⟩, 0) else (⟨#[]⟩, 130)) := by
  unfold version_Print.f
  rw [if_pos ⟨hl, ht⟩]
theorem one_num (d : Nat) (hd : d < 10) : strOfNums [(wrap64 (48 + (d : Int))) % 256] = ⟨#[UInt8.ofNat (48 + d)]⟩ := by
  have e : (wrap64 (48 + (d : Int))) % 256 = ((48 + d : Nat) : Int) := by rw [wrap_id (by omega) (by omega)]; omega
  rw [e]
  unfold strOfNums
  simp only [List.map_cons, List.map_nil, Int.toNat_natCast]
theorem digits_l0 : ∀ (m n : Nat) (acc : ByteArray), n < 10 ^ (m + 1) → m ≤ 9 → acc.size + m ≤ 1000 → Ev (fun k => tithebarnref13_digits.l0 k (n : Int) acc) (⟨(decDigits n ++ acc.data.toList).toArray⟩ : ByteArray) := by
  intro m
  induction m with
  | zero =>
    intro n acc hn _ ha
    have h10 : n < 10 := by simpa using hn
    have h1 := one_num n h10
    refine Ev.step (f := fun _ => some (⟨(decDigits n ++ acc.data.toList).toArray⟩ : ByteArray)) (fun k => ?_) (Ev.now _)
    simp only [tithebarnref13_digits.l0]
    rw [if_neg (by omega), Option.bind_some, h1, if_pos (by show 1 + acc.size ≤ _; omega), decDigits_one h10]
    congr 1
  | succ m ih =>
    intro n acc hn hm ha
    by_cases h10 : n < 10
    · have h1 := one_num n h10
      refine Ev.step (f := fun _ => some (⟨(decDigits n ++ acc.data.toList).toArray⟩ : ByteArray)) (fun k => ?_) (Ev.now _)
      simp only [tithebarnref13_digits.l0]
      rw [if_neg (by omega), Option.bind_some, h1, if_pos (by show 1 + acc.size ≤ _; omega), decDigits_one h10]
      congr 1
    · have hmod : n % 10 < 10 := Nat.mod_lt _ (by omega)
      have h1 := one_num (n % 10) hmod
      have hp : (10 : Nat) ^ 21 ≤ 9223372036854775807 ∨ True := .inr trivial
      have hdiv : n / 10 < 10 ^ (m + 1) := by
        rw [Nat.div_lt_iff_lt_mul (by omega)]
        rwa [Nat.pow_succ] at hn
      have := ih (n / 10) ((⟨#[UInt8.ofNat (48 + n % 10)]⟩ : ByteArray) ++ acc) hdiv (by omega) (by rw [ByteArray.size_append]; show 1 + acc.size + m ≤ 1000; omega)
      have e2 : decDigits (n / 10) ++ ((⟨#[UInt8.ofNat (48 + n % 10)]⟩ : ByteArray) ++ acc).data.toList = decDigits n ++ acc.data.toList := by
        conv => rhs; rw [decDigits, dif_neg h10]
        simp [ByteArray.data_append]
      rw [e2] at this
      have hdiv2 : (((n / 10 : Nat)) : Int) ≤ 9223372036854775807 ∨ 9223372036854775807 < (((n / 10 : Nat)) : Int) := by omega
      refine Ev.step (fun k => ?_) this
      simp only [tithebarnref13_digits.l0]
      have et : Int.tmod (n : Int) 10 = ((n % 10 : Nat) : Int) := by rw [Int.tmod_eq_emod_of_nonneg (by omega)]; omega
      have ed : Int.tdiv (n : Int) 10 = ((n / 10 : Nat) : Int) := by rw [Int.tdiv_eq_ediv_of_nonneg (by omega)]; omega
      have hb : (n / 10 : Nat) ≤ 9223372036854775807 := by
        have h : (10 : Nat) ^ (m + 1) ≤ 10 ^ 10 := Nat.pow_le_pow_right (by omega) (by omega)
        have : (10 : Nat) ^ 10 = 10000000000 := by decide
        omega
      rw [if_pos (by omega), Option.bind_some, et, h1, if_pos (by show 1 + acc.size ≤ _; omega), ed, wrap_id (by omega) (by omega)]
theorem digits_ev (n : Int) (h0 : 0 ≤ n) (h1 : n ≤ 999999999) : Ev (fun k => tithebarnref13_digits.f k n) (⟨(decDigits n.toNat).toArray⟩ : ByteArray) := by
  have h := digits_l0 8 n.toNat ⟨#[]⟩ (by have : (10 : Nat) ^ 9 = 1000000000 := by decide
                                          omega) (by omega) (by decide)
  rw [Int.toNat_of_nonneg h0] at h
  have e : (decDigits n.toNat ++ (⟨#[]⟩ : ByteArray).data.toList) = decDigits n.toNat := List.append_nil _
  rw [e] at h
  exact h
theorem joinOn_snoc (c : UInt8) : ∀ (ps : List (List UInt8)) (p : List UInt8), ps ≠ [] → joinOn c (ps ++ [p]) = joinOn c ps ++ c :: p
  | [], _, h => absurd rfl h
  | [a], p, _ => rfl
  | a :: b :: r, p, _ => by
    have ih := joinOn_snoc c (b :: r) p (by simp)
    show a ++ c :: joinOn c (b :: r ++ [p]) = _
    rw [ih]
    simp [joinOn]
def jB (l : List Int) (i : Nat) : ByteArray := ⟨(joinOn 46 ((l.take i).map fun n => decDigits n.toNat)).toArray⟩
theorem jB_size (l : List Int) (i : Nat) (h : (l.take i).all okN = true) : (jB l i).size ≤ 10 * l.length := by
  have h1 := joinOn_len 46 ((l.take i).map fun n => decDigits n.toNat) (fun p hp => by
    obtain ⟨n, hn, rfl⟩ := List.mem_map.1 hp
    have := List.all_eq_true.1 h n hn
    unfold okN at this
    simp only [Bool.and_eq_true, decide_eq_true_eq] at this
    exact dec_len _ (by omega))
  rw [List.length_map, List.length_take] at h1
  have : (jB l i).size = (joinOn 46 ((l.take i).map fun n => decDigits n.toNat)).length := by simp [jB, ByteArray.size]
  omega
theorem refprint_l0 (l : List Int) (t : ByteArray) (hl : 1 ≤ l.length ∧ l.length ≤ 8) (htl : t.size ≤ 1000) : ∀ (d i : Nat), i + d = l.length → (l.take i).all okN = true →
    Ev (fun k => tithebarnref13_Print.l0 k (jB l i) (i : Int) l t) (if l.all okN then (⟨(printV l t.data.toList).toArray⟩, 0) else (⟨#[]⟩, 130)) := by
  intro d
  induction d with
  | zero =>
    intro i hi ha
    have hsz := jB_size l i ha
    have e : i = l.length := by omega
    subst e
    have htk : l.take l.length = l := List.take_length
    have hj : jB l l.length = ⟨(joinOn 46 (l.map fun n => decDigits n.toNat)).toArray⟩ := by unfold jB; rw [htk]
    rw [htk] at ha
    rw [ha, if_pos rfl]
    refine Ev.step (f := fun _ => some ((⟨(printV l t.data.toList).toArray⟩ : ByteArray), (0 : Int))) (fun k => ?_) (Ev.now _)
    simp only [tithebarnref13_Print.l0]
    rw [if_neg (by omega), ByteArray.toList_eq]
    by_cases ht : t.data.toList = []
    · rw [if_pos ht, hj]
      unfold printV
      rw [if_pos ht, List.append_nil]
    · have hs2 : (jB l l.length ++ (⟨#[45]⟩ : ByteArray)).size = (jB l l.length).size + 1 := by rw [ByteArray.size_append]; rfl
      rw [if_neg ht, if_pos (by omega), if_pos (by rw [hs2]; omega), hj]
      congr 2
      unfold printV
      rw [if_neg ht]
      apply ByteArray.ext
      apply Array.ext'
      simp [ByteArray.data_append]
  | succ d ih =>
    intro i hi ha
    have hil : i < l.length := by omega
    have hsz := jB_size l i ha
    have e1 : rd l (i : Int) = l[i] := by rw [rd_nat]; simp [hil]
    have htk : l.take (i + 1) = l.take i ++ [l[i]] := by rw [List.take_add_one, List.getElem?_eq_getElem hil]; rfl
    have hnot : okN l[i] = false → l.all okN = false := fun h => by
      rw [Bool.eq_false_iff]
      intro h2
      have := List.all_eq_true.1 h2 l[i] (List.getElem_mem hil)
      rw [h] at this
      cases this
    by_cases c1 : l[i] < 0
    · rw [hnot (by unfold okN; simp; omega)]
      refine Ev.step (f := fun k => tithebarnref13_Print.j2 k (jB l i) (i : Int) true l t) (fun k => ?_) (Ev.step (f := fun _ => some ((⟨#[]⟩ : ByteArray), (130 : Int))) (fun k => ?_) (Ev.now _))
      · simp only [tithebarnref13_Print.l0]
        rw [if_pos (by omega), if_pos (by omega), e1, if_pos c1]
      · simp only [tithebarnref13_Print.j2]
        rfl
    · refine Ev.step (f := fun k => tithebarnref13_Print.j2 k (jB l i) (i : Int) (decide (l[i] > 999999999)) l t) (fun k => ?_) ?_
      · simp only [tithebarnref13_Print.l0]
        rw [if_pos (by omega), if_pos (by omega), e1, if_neg c1]
      · by_cases c2 : l[i] > 999999999
        · rw [hnot (by unfold okN; simp; omega), decide_eq_true c2]
          refine Ev.step (f := fun _ => some ((⟨#[]⟩ : ByteArray), (130 : Int))) (fun k => ?_) (Ev.now _)
          simp only [tithebarnref13_Print.j2]
          rfl
        · rw [decide_eq_false c2]
          have hdg := digits_ev l[i] (by omega) (by omega)
          have hdl := dec_len l[i].toNat (by omega)
          have hds : (⟨(decDigits l[i].toNat).toArray⟩ : ByteArray).size ≤ 9 := by simpa [ByteArray.size] using hdl
          have hok : (l.take (i + 1)).all okN = true := by rw [htk, List.all_append, ha]; simp [okN]; omega
          have ih2 := ih (i + 1) (by omega) hok
          by_cases h0 : i = 0
          · subst h0
            have hjb : jB l 0 ++ (⟨(decDigits l[0].toNat).toArray⟩ : ByteArray) = jB l (0 + 1) := by
              unfold jB
              rw [htk]
              apply ByteArray.ext
              apply Array.ext'
              simp [ByteArray.data_append, joinOn]
            refine Ev.step (f := fun k => (tithebarnref13_digits.f k l[0]).bind fun t114 => (if (jB l 0).size + t114.size ≤ 9223372036854775807 then (tithebarnref13_Print.l0 k (jB l 0 ++ t114) ((0 + 1 : Nat) : Int) l t) else (none))) (fun k => ?_) (Ev.bind hdg (Ev.ite_pos (by omega) (by rw [hjb]; exact ih2)))
            simp only [tithebarnref13_Print.j2]
            rw [if_neg (by decide), if_neg (by omega), if_pos (by omega), if_pos (by omega), e1, wrap_id (by omega) (by omega)]
            rfl
          · have hne : (l.take i).map (fun n => decDigits n.toNat) ≠ [] := by
              intro h
              have := congrArg List.length h
              rw [List.length_map, List.length_take] at this
              simp only [List.length_nil] at this
              omega
            have hjb : (jB l i ++ (⟨#[46]⟩ : ByteArray)) ++ (⟨(decDigits l[i].toNat).toArray⟩ : ByteArray) = jB l (i + 1) := by
              unfold jB
              rw [htk, List.map_append, List.map_cons, List.map_nil, joinOn_snoc 46 _ _ hne]
              apply ByteArray.ext
              apply Array.ext'
              simp [ByteArray.data_append]
            have hs2 : (jB l i ++ (⟨#[46]⟩ : ByteArray)).size = (jB l i).size + 1 := by rw [ByteArray.size_append]; rfl
            refine Ev.step (f := fun k => (tithebarnref13_digits.f k l[i]).bind fun t112 => (if (jB l i ++ (⟨#[46]⟩ : ByteArray)).size + t112.size ≤ 9223372036854775807 then (tithebarnref13_Print.l0 k ((jB l i ++ (⟨#[46]⟩ : ByteArray)) ++ t112) ((i + 1 : Nat) : Int) l t) else (none))) (fun k => ?_) (Ev.bind hdg (Ev.ite_pos (by omega) (by rw [hjb]; exact ih2)))
            simp only [tithebarnref13_Print.j2]
            rw [if_neg (by decide), if_pos (by omega), if_pos (by omega), if_pos (by omega), if_pos (by omega), e1, wrap_id (by omega) (by omega)]
            rfl
theorem refprint_ev (l : List Int) (t : ByteArray) (htl : t.size ≤ 1000) : Ev (fun k => tithebarnref13_Print.f k l t) (if okV l t.data.toList then (⟨(printV l t.data.toList).toArray⟩, 0) else (⟨#[]⟩, 130)) := by
  have hok : okV l t.data.toList = (decide (1 ≤ l.length) && decide (l.length ≤ 8) && l.all okN && tagB t.data.toList) := rfl
  have hbad : Ev (fun k => tithebarnref13_Print.j0 k true l t) ((⟨#[]⟩ : ByteArray), (130 : Int)) := by
    refine Ev.step (f := fun _ => some ((⟨#[]⟩ : ByteArray), (130 : Int))) (fun k => ?_) (Ev.now _)
    simp only [tithebarnref13_Print.j0]
    rfl
  unfold tithebarnref13_Print.f
  rw [hok]
  by_cases c1 : (l.length : Int) < 1
  · rw [decide_eq_false (show ¬ 1 ≤ l.length by omega)]
    exact Ev.ite_pos c1 hbad
  · refine Ev.ite_neg c1 ?_
    by_cases c2 : (l.length : Int) > 8
    · rw [decide_eq_false (show ¬ l.length ≤ 8 by omega), Bool.and_false]
      exact Ev.ite_pos c2 hbad
    · refine Ev.ite_neg c2 (Ev.bind (tag_ev t (by omega)) ?_)
      rw [decide_eq_true (show 1 ≤ l.length by omega), decide_eq_true (show l.length ≤ 8 by omega)]
      cases htag : tagB t.data.toList with
      | false =>
        rw [Bool.and_false]
        exact hbad
      | true =>
        rw [Bool.and_true, Bool.true_and, Bool.true_and]
        have := refprint_l0 l t (by omega) htl l.length 0 (by omega) rfl
        refine Ev.step (f := fun k => tithebarnref13_Print.l0 k (jB l 0) ((0 : Nat) : Int) l t) (fun k => ?_) this
        simp only [tithebarnref13_Print.j0]
        rfl
theorem vprint_j0 (f : Bool) (l : List Int) (t : ByteArray) (hl : l.length ≤ 100) (hf : f = decide ((t.size : Int) > 100)) : Ev (fun k => tithebarnlaw13_VersionPrint.j0 k f l t) true := by
  by_cases ht : t.size ≤ 100
  · have : f = false := by rw [hf]; simp; omega
    subst this
    have hr := refprint_ev l t (by omega)
    generalize hq : (if okV l t.data.toList then ((⟨(printV l t.data.toList).toArray⟩ : ByteArray), (0 : Int)) else (⟨#[]⟩, 130)) = q at hr
    refine Ev.step (f := fun k => (tithebarnref13_Print.f k l t).bind fun bt125 => (if q.1.toList = bt125.1.toList then (if q.2 = bt125.2 then (some true) else (some false)) else (some false))) (fun k => ?_) (Ev.bind hr (Ev.ite_pos rfl (Ev.ite_pos rfl (Ev.now _))))
    simp only [tithebarnlaw13_VersionPrint.j0]
    rw [if_neg (by decide), print_progX l t (by omega) (by omega), hq, Option.bind_some]
    rfl
  · have : f = true := by rw [hf]; simp; omega
    subst this
    refine Ev.step (f := fun _ => some true) (fun k => ?_) (Ev.now _)
    simp only [tithebarnlaw13_VersionPrint.j0]
    rfl
theorem vprint_true (l : List Int) (t : ByteArray) : Ev (fun k => tithebarnlaw13_VersionPrint.j0 k true l t) true := by
  refine Ev.step (f := fun _ => some true) (fun k => ?_) (Ev.now _)
  simp only [tithebarnlaw13_VersionPrint.j0]
  rfl
theorem true_VersionPrint : ∀ (l0_0 : (List Int)) (a0_1 : ByteArray), Ev (fun k => PVer.tithebarnlaw13_VersionPrint.f k l0_0 a0_1) true := by
  intro l t
  unfold tithebarnlaw13_VersionPrint.f
  by_cases h : (l.length : Int) > 100
  · exact Ev.ite_pos h (vprint_true l t)
  · exact Ev.ite_neg h (vprint_j0 _ l t (by omega) rfl)
theorem pure_VersionPrint : ∀ (l0_0 : (List Int)) (a0_1 : ByteArray), (l0_0.length ≤ maxLen ∧ ∀ y0 ∈ l0_0, (Lit.int .i64 y0).wf = true) → a0_1.size ≤ maxLen → ∃ k, PVer.tithebarnlaw13_VersionPrint.f k l0_0 a0_1 = some true := fun l t _ _ => Ev.rounds (true_VersionPrint l t)
end Go.Proofs.YtnbmdecehlljcaaGreatDoor
namespace Go.Proofs.YtnbmdecehlljcaaGreatDoor.PVer
open Go.RowKit Go.Lib Go.Proofs.YtnbmdecehlljcaaGreatDoor Go.Proofs.YtnbmdecehlljcaaGreatDoorW.PrintWords Go.Proofs.YtnbmdecehlljcaaGreatDoorW.PrintLast Go.Proofs.YtnbmdecehlljcaaGreatDoorW.PrintMore
theorem t_of {g : Nat → Option Bool} {k : Nat} {t : Bool} (hE : Ev g true) (hm : ∀ k, LeO (g k) (g (k + 1))) (h : g k = some t) : t = true := by
  obtain ⟨K, hK⟩ := hE
  obtain ⟨K', hK'⟩ := Ev.of hm h
  have a := hK (max K K') (Nat.le_max_left _ _)
  have b := hK' (max K K') (Nat.le_max_right _ _)
  rw [a] at b
  exact (Option.some.inj b).symm
theorem tithebarnlaw13_VersionParse_t {k : Nat} {a0 : ByteArray} {t : Bool} (h : tithebarnlaw13_VersionParse.f k a0 = some t) : t = true := t_of (true_VersionParse a0) (tithebarnlaw13_VersionParse.mono a0) h
theorem tithebarnlaw13_VersionPrint_t {k : Nat} {a0 : List Int} {a1 : ByteArray} {t : Bool} (h : tithebarnlaw13_VersionPrint.f k a0 a1 = some t) : t = true := t_of (true_VersionPrint a0 a1) (tithebarnlaw13_VersionPrint.mono a0 a1) h
theorem tithebarnlaw13_VersionBack_t {k : Nat} {a0 : ByteArray} {a1 : List Int} {a2 : ByteArray} {t : Bool} (h : tithebarnlaw13_VersionBack.f k a0 a1 a2 = some t) : t = true := t_of (true_VersionBack a0 a1 a2) (tithebarnlaw13_VersionBack.mono a0 a1 a2) h
theorem tithebarnlaw13_VersionSort_t {k : Nat} {a0 : List ByteArray} {t : Bool} (h : tithebarnlaw13_VersionSort.f k a0 = some t) : t = true := t_of (true_VersionSort a0) (tithebarnlaw13_VersionSort.mono a0) h
theorem tithebarnlaw13_VersionCompare_t {k : Nat} {a0 : List Int} {a1 : ByteArray} {a2 : List Int} {a3 a4 a5 : ByteArray} {t : Bool} (h : tithebarnlaw13_VersionCompare.f k a0 a1 a2 a3 a4 a5 = some t) : t = true :=
  t_of (true_VersionCompare a0 a1 a2 a3 a4 a5) (tithebarnlaw13_VersionCompare.mono a0 a1 a2 a3 a4 a5) h
theorem tithebarnlaw13_VersionOrder_t {k : Nat} {a0 : List Int} {a1 : ByteArray} {a2 : List Int} {a3 : ByteArray} {a4 : List Int} {a5 : ByteArray} {t : Bool} (h : tithebarnlaw13_VersionOrder.f k a0 a1 a2 a3 a4 a5 = some t) : t = true :=
  t_of (true_VersionOrder a0 a1 a2 a3 a4 a5) (tithebarnlaw13_VersionOrder.mono a0 a1 a2 a3 a4 a5) h
end Go.Proofs.YtnbmdecehlljcaaGreatDoor.PVer
